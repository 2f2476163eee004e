/-
  The walk of the law LexPlaces.
-/
import Derived.Test.YtkcbkfflabkcgaaDoorMa
import Derived.Test.YtkcbkfflabkcgaaDoorNa
namespace Go.Proofs.YtkcbkfflabkcgaaDoor
open Go.RowKit

theorem lastTk_cells (n : Nat) : tokCells (lastTk n) = #[.int .i64 0, .int .i64 (n : Int), .int .i64 ((n : Int) + 1), .int .i64 0, .float .f64 0, .string ⟨#[]⟩] := by
  show #[_, _, Value.int .i64 ((n + 1 : Nat) : Int), _, _, _] = _
  rfl

set_option maxRecDepth 100000 in
set_option maxHeartbeats 8000000 in
theorem lawLexPlaces (s : ByteArray) (w : World) (hE : Env w) :
    Calls Tryd.prog 5 #[.string s] w fun e w' => e = .returned (.bool true) ∧ Below w.heap.size w w' := by
  have hst := store_float
  have HA := Lib.hid (fun w hE => awake_any w hE)
  have HAll := Lib.hid (fun w hE => all_any s w hE)
  by_cases hs : s.size ≤ 2000
  · have ht : decide ((2000 : Int) < (s.size : Int)) = false := by simp; omega
    have ht2 : ¬ 2000 < s.size := by omega
    have hl : s.data.toList.length = s.size := by simp
    have HL := Lib.hid hl
    have hch := fun h => tokens_chain (l := s.data.toList) (by omega) h
    have hbad := fun h => tokens_bad (l := s.data.toList) h
    have hlen := tokens_len2 s.data.toList
    rw [hl] at hch hlen
    have HCh := Lib.hid hch
    have HBad := Lib.hid hbad
    clear hch hbad hl
    generalize tokens s.data.toList = q at *
    obtain ⟨l, a, e⟩ := q
    dsimp only at hlen HCh HBad
    by_cases h0 : e = 0
    · have t4 : (e != 0) = false := by rw [h0]; rfl
      have HC := Lib.hid (HCh.out h0)
      have HI : (Tryd.prog.info? 30).map (fun i => (i.zero, i.size, i.bytes)) = some (some (.agg (tokCells noTk)), 6, 56) := by kernel_rfl
      obtain ⟨i0, hi, hz0, hz1, hz2⟩ := Go.info_parts HI
      have HII := Lib.hid hi
      have HZ0 := Lib.hid hz0
      have HZ1 := Lib.hid hz1
      have HZ2 := Lib.hid hz2
      clear hi hz0 hz1 hz2 HI h0 hs HCh HBad
      go_enter Tryd.func5, Tryd.ntmps5
      go_wp2_with fail
      refine (HA.out _ hE).mono ?_; rintro e1 w1 ⟨rfl, h1⟩
      go_wp2_with fail
      refine (HAll.out _ (hE.below h1)).mono ?_; rintro e2 w2 ⟨v, rfl, k2, hT2⟩
      have h2 := below_tr h1 k2
      dsimp only at hT2 ⊢
      have HN2 : Hid (∀ j u, (tokCells (lastTk s.size)).toList[j]? = some u → (w2.alloc (.cells #[.int .i64 0, .int .i64 (s.size : Int), .int .i64 ((s.size : Int) + 1), .int .i64 0, .float .f64 0, .string ⟨#[]⟩] 30)).cell? ((⟨w2.heap.size, 0, none⟩ : Addr).add j) = some u) := by
        refine news_tok (k := (lastTk s.size)) ?_
        have := heap_alloc_new w2 (.cells #[.int .i64 0, .int .i64 (s.size : Int), .int .i64 ((s.size : Int) + 1), .int .i64 0, .float .f64 0, .string ⟨#[]⟩] 30)
        rw [← lastTk_cells] at this ⊢
        exact this
      have hHl := h1.size
      generalize hH : w1.heap.size = H at *
      have hHw : H ≤ w2.heap.size := by have := k2.size; omega
      clear hH
      have hT3 := hT2.alloc (.cells #[.int .i64 0, .int .i64 (s.size : Int), .int .i64 ((s.size : Int) + 1), .int .i64 0, .float .f64 0, .string ⟨#[]⟩] 30)
      have hB3 : Below w.heap.size w (w2.alloc (.cells #[.int .i64 0, .int .i64 (s.size : Int), .int .i64 ((s.size : Int) + 1), .int .i64 0, .float .f64 0, .string ⟨#[]⟩] 30)) := h2.alloc h2.size (.cells #[.int .i64 0, .int .i64 (s.size : Int), .int .i64 ((s.size : Int) + 1), .int .i64 0, .float .f64 0, .string ⟨#[]⟩] 30)
      have hH3 : H ≤ (w2.alloc (.cells #[.int .i64 0, .int .i64 (s.size : Int), .int .i64 ((s.size : Int) + 1), .int .i64 0, .float .f64 0, .string ⟨#[]⟩] 30)).heap.size := by simp; omega
      have hwH : w.heap.size ≤ (w2.alloc (.cells #[.int .i64 0, .int .i64 (s.size : Int), .int .i64 ((s.size : Int) + 1), .int .i64 0, .float .f64 0, .string ⟨#[]⟩] 30)).heap.size := hB3.size
      clear hT2 h2 k2
      go_wp2_with (at_builtin; refine wpList_append_own _ rfl _ _ 24 rfl H 30 i0 (.agg (tokCells noTk)) 6 56 Tryd.underlying24 HII.out HZ0.out HZ1.out HZ2.out rfl (by decide) _ l.length (rowsOf l) rfl hT3 ⟨w2.heap.size, 0, none⟩ 1 1 (tokCells (lastTk s.size)).toList rfl rfl HN2.out (tok_one (lastTk s.size)) ?c3 ?c4 ?c5 ?_)
      case c3 => unfold maxLen; omega
      case c4 => omega
      case c5 => exact hH3
      intro v' w3 hown' hgrow _
      have hB4 : Below w.heap.size w w3 := hB3.grown hgrow hwH (fun g hg => Nat.le_trans hHl (World.ownsRow.lt hT3 g hg).1)
      have hT4 : Toks H v' (l ++ [(lastTk s.size)]) w3 := by
        show w3.ownsRow _ _ _ _ (l ++ [(lastTk s.size)]).length _
        rw [rowsOf_snoc, List.length_append]
        exact hown'
      have hLn : (l ++ [(lastTk s.size)]).length = l.length + 1 := by simp
      obtain ⟨g, cap, hvv, hg, hc⟩ := hT4.form (by omega)
      subst hvv
      rw [hLn] at hc ⊢
      have HCc := Lib.hid hc
      have HLn := Lib.hid hLn
      generalize l ++ [(lastTk s.size)] = L at *
      generalize hn : l.length + 1 = n at *
      clear hc hLn hown' hgrow hT4 hT3 hB3 hH3 hwH HN2 h1
      have hn1 : n ≤ s.size + 2 := by omega
      clear hn
      go_wp2_with fail
      have hB5 := Below.refl w3.heap.size w3
      generalize hG : w3.heap.size = G at *
      have HG := Lib.hid hG; clear hG
      have hwG : w.heap.size ≤ G := by have := hB4.size; rw [HG.out] at this; exact this
      go_loopw [6, 39] (fun bv iv wr => ∃ i b : Nat, i ≤ n ∧ bv = .int .i64 b ∧ iv = .int .i64 i ∧ Below G w3 wr ∧ Hid (Chain s.data.toList b (L.drop i))) (fun _ iv _ => n - (intOf iv).toNat)
      case atStart => exact ⟨0, 0, by omega, rfl, rfl, hB5, by show Chain _ _ _; rw [List.drop_zero]; exact HC.out⟩
      case round =>
        clear hB5
        obtain ⟨i, b, hi, rfl, rfl, hB, hch⟩ := hrel
        have hGr : G ≤ wr.heap.size := by have := hB.size; rw [HG.out] at this; exact this
        by_cases hlt : i < n
        · have t5 : decide ((i : Int) < (n : Int)) = true := by simp; omega
          obtain ⟨c1, c2, c3, c4⟩ := chain_drop (L := L) (i := i) (by rw [HLn.out]; exact hlt) hch.out
          have HF := Lib.hid (fun j (h1 : b ≤ j) (h2 : j < b + far isBl s.data.toList b) => far_each isBl (l := s.data.toList) h1 h2 c3)
          have x0 : wr.cell? ⟨g, i * 6, none⟩ = some (.int .i64 (L.getD i noTk).kind) := (hB.cell (p := ⟨g, i * 6 + 0, none⟩) (by show g < G; omega)).trans (HCc.out i 0 hlt (by decide))
          have x1 : wr.cell? ⟨g, i * 6 + 1, none⟩ = some (.int .i64 (L.getD i noTk).pos) := (hB.cell (p := ⟨g, i * 6 + 1, none⟩) (by show g < G; omega)).trans (HCc.out i 1 hlt (by decide))
          have x2 : wr.cell? ⟨g, i * 6 + 2, none⟩ = some (.int .i64 (L.getD i noTk).next) := (hB.cell (p := ⟨g, i * 6 + 2, none⟩) (by show g < G; omega)).trans (HCc.out i 2 hlt (by decide))
          have x3 : wr.cell? ⟨g, i * 6 + 3, none⟩ = some (.int .i64 (L.getD i noTk).num) := (hB.cell (p := ⟨g, i * 6 + 3, none⟩) (by show g < G; omega)).trans (HCc.out i 3 hlt (by decide))
          have x4 : wr.cell? ⟨g, i * 6 + 4, none⟩ = some (.float .f64 (L.getD i noTk).flt) := (hB.cell (p := ⟨g, i * 6 + 4, none⟩) (by show g < G; omega)).trans (HCc.out i 4 hlt (by decide))
          have x5 : wr.cell? ⟨g, i * 6 + 5, none⟩ = some (.string ⟨(L.getD i noTk).str.toArray⟩) := (hB.cell (p := ⟨g, i * 6 + 5, none⟩) (by show g < G; omega)).trans (HCc.out i 5 hlt (by decide))
          rw [HL.out] at c3
          have hfl := far_le isBl s.data.toList (a := b) (by rw [HL.out]; exact c3)
          rw [HL.out, ← c1] at hfl
          rw [← c1] at HF
          have hbp : b ≤ (L.getD i noTk).pos := by omega
          generalize L.getD i noTk = k at *
          have HCh := Lib.hid c4
          have b1 : (0 : Int) ≤ (i : Int) := by omega
          have b2 : (i : Int) < (n : Int) := by omega
          clear c1 c4
          go_upto_region 10 with (fail)
          have hK2 : TokAt wr.heap.size k (wr.alloc (.cells #[.int .i64 k.kind, .int .i64 k.pos, .int .i64 k.next, .int .i64 k.num, .float .f64 k.flt, .string ⟨k.str.toArray⟩] 30)) := heap_alloc_new wr _
          have hB6 := hB.alloc hGr (.cells #[.int .i64 k.kind, .int .i64 k.pos, .int .i64 k.next, .int .i64 k.num, .float .f64 k.flt, .string ⟨k.str.toArray⟩] 30)
          clear x0 x1 x2 x3 x4 x5
          generalize wr.alloc (.cells #[.int .i64 k.kind, .int .i64 k.pos, .int .i64 k.next, .int .i64 k.num, .float .f64 k.flt, .string ⟨k.str.toArray⟩] 30) = W5 at *
          generalize wr.heap.size = T at *
          have z1 : W5.cell? ⟨T, 1, none⟩ = some (.int .i64 k.pos) := hK2.cell 1
          have z2 : W5.cell? ⟨T, 2, none⟩ = some (.int .i64 k.next) := hK2.cell 2
          have t6 : decide ((k.pos : Int) < (b : Int)) = false := by simp; omega
          have t6' : ¬ k.pos < b := by omega
          have t7 : decide ((k.next : Int) ≤ (k.pos : Int)) = false := by simp; omega
          have t7' : ¬ k.next ≤ k.pos := by omega
          go_wp2_with fail
          go_loop [9] (fun jv => ∃ j : Nat, b ≤ j ∧ j ≤ k.pos ∧ jv = .int .i64 j) (fun jv => k.pos - (intOf jv).toNat)
          case atStart => exact ⟨b, Nat.le_refl _, hbp, rfl⟩
          case round =>
            obtain ⟨j, hj1, hj2, rfl⟩ := hrel
            by_cases hjl : j < k.pos
            · have hjs : j < s.size := by omega
              have t8 : decide ((j : Int) < (k.pos : Int)) = true := by simp; omega
              have hbl := HF.out j hj1 hjl
              have hg0 : s.data.toList.getD j 0 = s[j]'hjs := by simp [List.getD, hjs]; rfl
              rw [hg0] at hbl
              clear hg0
              rcases blank_cases _ hbl with e1 | ⟨e1, e2⟩ | ⟨e1, e2, e3⟩ | ⟨e1, e2, e3, e4⟩
              all_goals
                clear hbl
                go_wp2_with fail
                go_round
                case rel => exact ⟨j + 1, by omega, by omega, by go_num⟩
                case measure => simp [intOf]; omega
            · have hjk : j = k.pos := by omega
              have t8 : decide ((j : Int) < (k.pos : Int)) = false := by simp; omega
              have t8' : ¬ j < k.pos := hjl
              clear hjk
              go_wp2_with fail
              go_roundw
              case rel => exact ⟨i + 1, k.next, by omega, rfl, by go_num, hB6, HCh.out⟩
              case measure => simp [intOf]; omega
        · have t5 : decide ((i : Int) < (n : Int)) = false := by simp; omega
          have t5' : ¬ i < n := hlt
          go_wp2_with fail
          go_ret
          exact ⟨rfl, hB4.trans (hB.mono hwG)⟩
    · have t4 : (e != 0) = true := by rw [bne_iff_ne]; exact h0
      have hln : l = [] := HBad.out h0
      subst hln
      clear HBad HCh
      have HH0 := Lib.hid h0; clear h0 hs
      go_enter Tryd.func5, Tryd.ntmps5
      go_wp2_with fail
      refine (HA.out _ hE).mono ?_; rintro e1 w1 ⟨rfl, h1⟩
      go_wp2_with fail
      refine (HAll.out _ (hE.below h1)).mono ?_; rintro e2 w2 ⟨v, rfl, k2, hT2⟩
      have h2 := below_tr h1 k2
      dsimp only at hT2 ⊢
      obtain ⟨p, c, rfl⟩ := hT2.nil
      go_wp2_with fail
      go_ret
      exact ⟨rfl, h2⟩
  · have ht : decide ((2000 : Int) < (s.size : Int)) = true := by simp; omega
    clear hs
    go_enter Tryd.func5, Tryd.ntmps5
    go_wp2_with fail
    refine (HA.out _ hE).mono ?_; rintro e w1 ⟨rfl, h1⟩
    go_wp2_with fail
    refine (HA.out _ (hE.below h1)).mono ?_; rintro e w2 ⟨rfl, k2⟩
    have h2 := below_tr h1 k2
    go_wp2_with fail
    go_ret
    exact ⟨rfl, h2⟩
end Go.Proofs.YtkcbkfflabkcgaaDoor
