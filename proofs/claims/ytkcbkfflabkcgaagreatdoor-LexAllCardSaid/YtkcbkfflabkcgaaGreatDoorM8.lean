/-
  The walk of the references' All and Word.
-/
import Derived.Test.YtkcbkfflabkcgaaGreatDoorM7
import Derived.Test.YtkcbkfflabkcgaaGreatDoorKe
namespace Go.Proofs.YtkcbkfflabkcgaaGreatDoor
open Go.RowKit

theorem Toks.below {B : Nat} {v : Value} {l : List Tk} {w w' : World} (h : Toks B v l w) (hb : Below w.heap.size w w') : Toks B v l w' :=
  World.ownsRow.kept (row := none) h ⟨hb.os, hb.tape, hb.output, hb.size, fun k hk _ => hb.block k hk⟩ (Classical.em _)

set_option maxRecDepth 100000 in
set_option maxHeartbeats 4000000 in
theorem rall_any (s : ByteArray) (w : World) : Calls Tryz.prog 10 #[.string s] w (AllRes (tokens s.data.toList) w) := by
  have hst := store_float
  have hl : s.data.toList.length = s.size := by simp
  have HL := Lib.hid hl
  have hR := tokens.eq_def s.data.toList
  have HNx := Lib.hid (fun i w => rnext_any s i w)
  have HRn := Lib.hid (fun i => rnextS.eq_def s.data.toList i)
  rw [hl] at hR
  clear hl
  by_cases h0 : 2000 < s.size
  · rw [if_pos h0] at hR
    have HR := Lib.hid hR; clear hR
    have hq := HRn.out 0
    rw [if_pos (.inr (.inr (by rw [HL.out]; exact h0)))] at hq
    have HN0 := HNx.out 0
    rw [hq] at HN0
    have HN0 := Lib.hid HN0
    clear hq
    go_enter Tryz.func10, Tryz.ntmps10
    go_wp2_with fail
    refine wp_loop_rounds 1 ?_
    rw [rounds_succ]
    go_wp2_with fail
    refine (HN0.out _).mono ?_; rintro e w1 ⟨rfl, hb1⟩
    rw [tokCells_mk]
    go_wp2_with fail
    go_ret3
    rw [HR.out]
    exact ⟨_, rfl, hb1.alloc hb1.size _, World.ownsRow_nil _ _ _ _⟩
  · rw [if_neg h0] at hR
    have HR := Lib.hid hR; clear hR
    have hs : s.size ≤ 2000 := by omega
    have HI : (Tryz.prog.info? 25).map (fun i => (i.zero, i.size, i.bytes)) = some (some (.agg (tokCells noTk)), 6, 56) := by kernel_rfl
    obtain ⟨i0, hi, hz0, hz1, hz2⟩ := Go.info_parts HI
    have HII := Lib.hid hi
    have HZ0 := Lib.hid hz0
    have HZ1 := Lib.hid hz1
    have HZ2 := Lib.hid hz2
    clear hi hz0 hz1 hz2 HI h0
    have hB := Below.refl w.heap.size w
    have hT : Toks w.heap.size (.slice none 0 0) [] w := World.ownsRow_nil _ _ _ _
    go_enter Tryz.func10, Tryz.ntmps10
    go_wp2_with fail
    generalize hgh : w.heap.size = H at *
    have HH := Lib.hid hgh
    have hHw : H ≤ w.heap.size := by omega
    clear hgh
    go_loopw [5, 6] (fun v iv wr => ∃ (k f : Nat) (o : List Tk) (V : Value), V = v ∧ k ≤ s.size ∧ s.size < f + k ∧ o.length ≤ k ∧ H ≤ wr.heap.size ∧ Below H w wr ∧ Toks H V o wr ∧ Hid (tokens s.data.toList = preT o (allS s.data.toList f k)) ∧ iv = .int .i64 k) (fun _ iv _ => s.size - (intOf iv).toNat)
    case atStart => exact ⟨0, s.size + 1, [], _, rfl, by omega, by omega, by simp, hHw, hB, hT, by show _ = _; rw [HR.out, preT_nil], by first | rfl | go_num⟩
    case round =>
      clear hB hT
      obtain ⟨k0, f, o, V, rfl, hk0, hf, hok, hsz, hB, hT, hR, rfl⟩ := hrel
      obtain ⟨f, rfl⟩ : ∃ g, f = g + 1 := ⟨f - 1, by omega⟩
      have HC := Lib.hid (fun h => tok_cases (l := s.data.toList) (b := k0) (by rw [HL.out]; exact hk0) h)
      have HG := Lib.hid (fun h h1 => allS_go (l := s.data.toList) (f := f) (b := k0) o h h1)
      have HQ := Lib.hid (fun h h1 => allS_end (l := s.data.toList) (f := f) (b := k0) h h1)
      have HX := Lib.hid (fun h => allS_err (l := s.data.toList) (f := f) (b := k0) h)
      have hq := HRn.out (k0 : Int)
      rw [if_neg (by rw [HL.out]; omega), Int.toNat_natCast] at hq
      have HN := HNx.out (k0 : Int)
      rw [hq] at HN
      clear hq
      have hka : k0 ≤ k0 + far isBl s.data.toList k0 := Nat.le_add_right _ _
      generalize k0 + far isBl s.data.toList k0 = a at *
      generalize tokS s.data.toList k0 = r at *
      obtain ⟨k, re⟩ := r
      dsimp only at HN HC HG HQ HX
      by_cases h0 : re = 0
      · rw [if_pos h0] at HN
        have HN := Lib.hid HN
        have HH0 := Lib.hid h0; clear h0
        go_wp2_with fail
        refine (HN.out _).mono ?_; rintro e w1 ⟨rfl, hb1⟩
        have hT1 := hT.below hb1
        have hB1 := hB.trans (hb1.mono hsz)
        have hHw1 : H ≤ w1.heap.size := Nat.le_trans hsz hb1.size
        have hap : V.ownBlock ≠ some w1.heap.size := fun e => by have := (World.ownsRow.lt hT1 _ e).2; omega
        clear hT hB hb1
        rw [tokCells_mk]
        dsimp only
        go_upto_region 4 with (fail)
        have hC := HC.out HH0.out
        rw [HL.out] at hC
        have hB2 := hB1.alloc hHw1 (.cells #[.int .i64 k.kind, .int .i64 k.pos, .int .i64 k.next, .int .i64 k.num, .float .f64 k.flt, .string ⟨k.str.toArray⟩] 25)
        have hT2 := hT1.alloc (.cells #[.int .i64 k.kind, .int .i64 k.pos, .int .i64 k.next, .int .i64 k.num, .float .f64 k.flt, .string ⟨k.str.toArray⟩] 25)
        have hK2 : TokAt w1.heap.size k (w1.alloc (.cells #[.int .i64 k.kind, .int .i64 k.pos, .int .i64 k.next, .int .i64 k.num, .float .f64 k.flt, .string ⟨k.str.toArray⟩] 25)) := heap_alloc_new w1 _
        have hH2 : H ≤ (w1.alloc (.cells #[.int .i64 k.kind, .int .i64 k.pos, .int .i64 k.next, .int .i64 k.num, .float .f64 k.flt, .string ⟨k.str.toArray⟩] 25)).heap.size := by simp; omega
        rcases hC with ⟨hc1, hc2⟩ | ⟨hc1, hc2⟩
        · have hkk : k = ⟨1, s.size, s.size, 0, 0, []⟩ := congrArg Prod.fst hc2
          have t5 : (k.kind == 1) = true := by rw [hkk]; rfl
          have HF := Lib.hid (HQ.out HH0.out (by rw [hkk]))
          clear hkk hc1 hc2
          generalize w1.alloc (.cells #[.int .i64 k.kind, .int .i64 k.pos, .int .i64 k.next, .int .i64 k.num, .float .f64 k.flt, .string ⟨k.str.toArray⟩] 25) = W2 at *
          generalize w1.heap.size = T at *
          have z0 : W2.cell? ⟨T, 0, none⟩ = some (.int .i64 k.kind) := hK2.cell 0
          go_wp2_with fail
          go_ret3
          rw [hR.out, HF.out, preT_end]
          exact ⟨_, rfl, by rw [HH.out]; exact hB2, by rw [HH.out]; exact hT2⟩
        · have t5 : (k.kind == 1) = false := beq_eq_false_iff_ne.2 hc2.kind
          have HF := Lib.hid (HG.out HH0.out hc2.kind)
          have hn1 : a < k.next := hc2.lt
          have hn2 : k.next ≤ s.size := by have := hc2.le; rw [HL.out] at this; exact this
          clear hc1 hc2 hT1 hB1
          generalize w1.alloc (.cells #[.int .i64 k.kind, .int .i64 k.pos, .int .i64 k.next, .int .i64 k.num, .float .f64 k.flt, .string ⟨k.str.toArray⟩] 25) = W2 at *
          generalize w1.heap.size = T at *
          have z0 : W2.cell? ⟨T, 0, none⟩ = some (.int .i64 k.kind) := hK2.cell 0
          have z1 : W2.cell? ⟨T, 1, none⟩ = some (.int .i64 k.pos) := hK2.cell 1
          have z2 : W2.cell? ⟨T, 2, none⟩ = some (.int .i64 k.next) := hK2.cell 2
          have z3 : W2.cell? ⟨T, 3, none⟩ = some (.int .i64 k.num) := hK2.cell 3
          have z4 : W2.cell? ⟨T, 4, none⟩ = some (.float .f64 k.flt) := hK2.cell 4
          have z5 : W2.cell? ⟨T, 5, none⟩ = some (.string ⟨k.str.toArray⟩) := hK2.cell 5
          have HN2 : Hid (∀ j u, (tokCells k).toList[j]? = some u → (W2.alloc (.cells #[.int .i64 k.kind, .int .i64 k.pos, .int .i64 k.next, .int .i64 k.num, .float .f64 k.flt, .string ⟨k.str.toArray⟩] 25)).cell? ((⟨W2.heap.size, 0, none⟩ : Addr).add j) = some u) := news_tok (heap_alloc_new W2 _)
          have hB3 := hB2.alloc hH2 (.cells #[.int .i64 k.kind, .int .i64 k.pos, .int .i64 k.next, .int .i64 k.num, .float .f64 k.flt, .string ⟨k.str.toArray⟩] 25)
          have hT3 := hT2.alloc (.cells #[.int .i64 k.kind, .int .i64 k.pos, .int .i64 k.next, .int .i64 k.num, .float .f64 k.flt, .string ⟨k.str.toArray⟩] 25)
          have hK3 : TokAt T k (W2.alloc (.cells #[.int .i64 k.kind, .int .i64 k.pos, .int .i64 k.next, .int .i64 k.num, .float .f64 k.flt, .string ⟨k.str.toArray⟩] 25)) := hK2.kept ((Fr.refl [] W2).alloc (.cells #[.int .i64 k.kind, .int .i64 k.pos, .int .i64 k.next, .int .i64 k.num, .float .f64 k.flt, .string ⟨k.str.toArray⟩] 25)) (by simp)
          have hH3 : H ≤ (W2.alloc (.cells #[.int .i64 k.kind, .int .i64 k.pos, .int .i64 k.next, .int .i64 k.num, .float .f64 k.flt, .string ⟨k.str.toArray⟩] 25)).heap.size := by simp; omega
          clear hB2 hT2 hK2
          go_wp2_with (at_builtin; refine wpList_append_own _ rfl _ _ 33 rfl H 25 i0 (.agg (tokCells noTk)) 6 56 Tryz.underlying33 HII.out HZ0.out HZ1.out HZ2.out rfl (by decide) _ o.length (rowsOf o) rfl hT3 ⟨W2.heap.size, 0, none⟩ 1 1 (tokCells k).toList rfl rfl HN2.out (tok_one k) ?c3 ?c4 ?c5 ?_)
          case c3 => unfold maxLen; omega
          case c4 => omega
          case c5 => exact hH3
          intro v' w3 hown' hgrow _
          have hK4 : TokAt T k w3 := (hgrow.block T (lt_of_block hK3) (fun e => hap e.symm)).trans hK3
          have hB4 := hB3.grown hgrow hH3 (fun g hg => (World.ownsRow.lt hT3 g hg).1)
          have hT4 : Toks H v' (o ++ [k]) w3 := by
            show w3.ownsRow _ _ _ _ (o ++ [k]).length _
            rw [rowsOf_snoc, List.length_append]
            exact hown'
          have hH4 : H ≤ w3.heap.size := Nat.le_trans hH3 hgrow.size
          clear z0 z1 z2 z3 z4 z5
          have z2 : w3.cell? ⟨T, 2, none⟩ = some (.int .i64 k.next) := hK4.cell 2
          go_wp2_with fail
          go_roundw
          case rel => exact ⟨k.next, f, o ++ [k], _, rfl, hn2, by omega, by simp; omega, hH4, hB4, hT4, by show _ = _; rw [hR.out, HF.out], rfl⟩
          case measure => simp [intOf]; omega
      · rw [if_neg h0] at HN
        have HN := Lib.hid HN
        have t4 : (re != 0) = true := by rw [bne_iff_ne]; exact h0
        have HH0 := Lib.hid h0; clear h0
        go_wp2_with fail
        refine (HN.out _).mono ?_; rintro e w1 ⟨rfl, hb1⟩
        have hB1 := hB.trans (hb1.mono hsz)
        have hHw1 : H ≤ w1.heap.size := Nat.le_trans hsz hb1.size
        have HF := Lib.hid (HX.out HH0.out)
        clear hT hB hb1
        rw [tokCells_mk]
        go_wp2_with fail
        go_ret3
        rw [hR.out, HF.out, preT_err _ HH0.out]
        exact ⟨_, rfl, by rw [HH.out]; exact hB1.alloc hHw1 _, World.ownsRow_nil _ _ _ _⟩
end Go.Proofs.YtkcbkfflabkcgaaGreatDoor
