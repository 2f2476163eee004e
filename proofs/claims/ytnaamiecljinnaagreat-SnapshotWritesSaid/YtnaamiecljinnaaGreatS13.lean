/-
  Yp in one text.
-/
import Derived.Below
import Derived.BigQuiet
import Derived.Deep.AppendLies
import Derived.Deep.Cut
import Derived.Deep.CutBlock
import Derived.Deep.DeepCutAuto
import Derived.Deep.QuietTactic
import Derived.Deep.RegionHeld3
import Derived.Deep.RegionLaw
import Derived.Deep.RegionWith
import Derived.Defers
import Derived.Handy
import Derived.IntWalk
import Derived.Laws.Bits64b
import Derived.Laws.FloatBits
import Derived.Lib.AtoiAll
import Derived.Lib.Builder
import Derived.Lib.Bytes
import Derived.Lib.FrozenHead2
import Derived.Lib.Hide
import Derived.Lib.IndexMore
import Derived.Lib.ItoaNum
import Derived.Lib.MinMax
import Derived.Lib.OthersKept
import Derived.Lib.ParseIntB
import Derived.Lib.UnsafeStr
import Derived.LoopTactic
import Derived.OneCell
import Derived.OwnWalk
import Derived.Recover
import Derived.RegionTactic
import Derived.Shelf.Abstract
import Derived.Tactics
import Derived.Tactics2
import Derived.Test.YtnaamiecljinnaaGreatChecked
import Derived.WalkKit
import Derived.WalkLawsBesides
import Derived.WalkSpells
import Ieee.Arith
import Derived.Test.YtnaamiecljinnaaGreatS00
import Derived.Test.YtnaamiecljinnaaGreatS02
import Derived.Test.YtnaamiecljinnaaGreatS03
import Derived.Test.YtnaamiecljinnaaGreatS08
import Derived.Test.YtnaamiecljinnaaGreatS09
import Derived.Test.YtnaamiecljinnaaGreatS10
import Derived.Test.YtnaamiecljinnaaGreatS11
import Derived.Test.YtnaamiecljinnaaGreatS12
namespace Go.Proofs.YtnaamiecljinnaaGreat
open Go.RowKit
theorem zero_str : (Tryz.prog.info? 9).map (fun i => (i.zero, i.size, i.bytes)) = some (some (.string ⟨#[]⟩), 1, 16) := by kernel_rfl
theorem names_ready {P f b : Nat} {ns : List (List UInt8)} {its : List VT} {pn pi : Value} {w w5 : World} (h : Rows P f ns its pn pi w) (G2 : Fr [b] w.drew w5) (hbl : b < P) (o : Obj) : Rows P f ns its pn pi (w5.alloc o) := by
  have h1 : Rows P f ns its pn pi w.drew := h.far (b := b) ⟨rfl, rfl, rfl, Nat.le_refl _, fun _ _ _ => rfl⟩ (by omega)
  exact (h1.far G2.grown (by omega)).far (World.grownBy_alloc w5 o (some b)) (by omega)
set_option maxRecDepth 100000 in
set_option maxHeartbeats 16000000 in
theorem cvalR_k6 (s : ByteArray) (hs : s.size ≤ 100000000) (b k q f : Nat) (hf : f ≤ 11) (hq : q < 200) (hk : k < s.size) (hc : (s[k]'hk).toNat = 6) (ih : ReadsV s b f) (w : World) (hb : RdB b s k q w) :
    Calls Tryz.prog 117 #[.pointer (some ⟨b, 0, none⟩), .int .i64 ((12 - f : Nat) : Int)] w (RvPost b s (f + 1) w (rdV (f + 1) q (s.data.toList.drop k))) := by
  have hL : s.data.toList.length = s.size := by simp
  have hg : s.data.toList.getD k 0 = s[k]'hk := by simp [List.getD, hk]; rfl
  have hR := rdV_step (f := f) (p := q) (s.data.toList.getD k 0) (s.data.toList.drop (k + 1)) hq
  rw [← drop_byte (by rw [hL]; exact hk), hg, hc] at hR
  rw [if_neg (by decide), if_neg (by decide), if_neg (by decide), if_neg (by decide), if_pos (.inr rfl), show decide ((6 : Nat) = 6) = true from rfl] at hR
  have HC := fun w hb => cmany_any s hs b (k + 1) (q + 1) (by omega) w hb
  have hdec := fun n r => @rdU_dec (s.data.toList.drop (k + 1)) n r
  have hsuf := fun (a r : List UInt8) (h : s.data.toList.drop (k + 1) = a ++ r) => suf_of h (by rw [hL]; omega)
  have hsuf2 := fun (kk : Nat) (hkk : kk ≤ s.size) (a r : List UInt8) (h : s.data.toList.drop kk = a ++ r) => suf_of h (by rw [hL]; exact hkk)
  rw [hL] at hsuf hsuf2
  have HSuf := Lib.hid hsuf2
  have HIH := Lib.hid ih
  have wD : IntKind.i64.wrap (((12 - f : Nat) : Int) + 1) = ((13 - f : Nat) : Int) := by rw [IntKind.wrap_i64]; omega
  have hsf : ∀ (a : Addr) (x : Nat) (m : Mode) (w : World), (store a (.float .f64 x) m).run Tryz.prog w = stored Tryz.prog w a (.float .f64 x) m := fun a x m w => run_store _ w a _ m rfl
  have HB := Lib.hid (fun w hb => (show Calls Tryz.prog 144 #[.pointer (some ⟨b, 0, none⟩), .int .i64 ((12 - f : Nat) : Int)] w (fun e w' => e = .returned (.tuple #[]) ∧ RdB b s k (q + 1) w' ∧ Fr [b] w w') from by
    have h := cbegin_any s b k q (12 - f) (by omega) (by omega) w hb
    simp only [if_pos (show 12 - f ≤ 12 ∧ q < 200 by omega)] at h
    exact h))
  have HY := Lib.hid (fun w hb => (show Calls Tryz.prog 143 #[.pointer (some ⟨b, 0, none⟩)] w (fun e w' => e = .returned (.int .u8 6) ∧ RdB b s (k + 1) (q + 1) w' ∧ Fr [b] w w') from by
    have h := cbyte_yes s (by omega) b k (q + 1) hk w hb
    rw [hc] at h
    exact h))
  have hbl := hb.lt
  have hb0 : RdB b s k q (w.alloc (.cells #[.int .i64 0, .int .i64 0, .float .f64 0, .string ⟨#[]⟩, .slice none 0 0, .slice none 0 0] 57)) := (Lib.alloc_old w _ b hbl).trans hb
  have hf0 := (Fr.refl [b] w).alloc (.cells #[.int .i64 0, .int .i64 0, .float .f64 0, .string ⟨#[]⟩, .slice none 0 0, .slice none 0 0] 57)
  have hg0 : (w.alloc (.cells #[.int .i64 0, .int .i64 0, .float .f64 0, .string ⟨#[]⟩, .slice none 0 0, .slice none 0 0] 57)).heap[w.heap.size]? = some (.cells #[.int .i64 0, .int .i64 0, .float .f64 0, .string ⟨#[]⟩, .slice none 0 0, .slice none 0 0] 57 (0, 0)) := heap_alloc_new w _
  generalize hgh : w.heap.size = P at *
  have HP := Lib.hid hgh; clear hgh
  have hbP : b ≠ P := by omega
  have hnP : P ∉ [b] := by simp; omega
  have wk : IntKind.i64.wrap 6 = 6 := by decide
  rw [hR]
  clear hR hg hL hc hsuf2 ih
  generalize rdU (s.data.toList.drop (k + 1)) = r at *
  rcases r with _ | ⟨N, l⟩
  · have HC := Lib.hid HC
    clear hdec hsuf
    go_enter Tryz.func117, Tryz.ntmps117
    go_wp2_with fail
    rw [HP.out]
    generalize w.alloc (.cells #[.int .i64 0, .int .i64 0, .float .f64 0, .string ⟨#[]⟩, .slice none 0 0, .slice none 0 0] 57) = W0 at *
    refine (HB.out _ hb0).mono ?_; rintro e w1 ⟨rfl, hb1, hf1⟩
    have hg1 := hf1.at hg0 hnP
    have A1 := hf0.trans hf1
    clear hb0 hg0 hf1 hf0
    go_wp2_with fail
    refine (HY.out _ hb1).mono ?_; rintro e w2 ⟨rfl, hb2, hf2⟩
    have hg2 := hf2.at hg1 hnP
    have A2 := (A1.trans hf2).mono (m := [b, P]) (by simp)
    clear hb1 hg1 hf2 A1
    have c0 : w2.cell? ⟨P, 0, none⟩ = some (.int .i64 0) := by rw [Lib.cell_of_heap hg2]; rfl
    have z0 : w2.frozen? ⟨P, 0, none⟩ = false := Lib.frozen_of_heap hg2 0
    have F3 := (Fr.refl [P] w2).setCell ⟨P, 0, none⟩ (by simp) (.int .i64 6)
    have hg3 : (w2.setCell ⟨P, 0, none⟩ (.int .i64 6)).heap[P]? = some (.cells #[.int .i64 6, .int .i64 0, .float .f64 0, .string ⟨#[]⟩, .slice none 0 0, .slice none 0 0] 57 (0, 0)) := heap_setN hg2 0 _
    have hb3 := hb2.kept F3 (by simpa using hbP)
    have A3 := A2.trans (F3.mono (by simp))
    go_wp2_with fail
    clear c0 z0
    generalize w2.setCell ⟨P, 0, none⟩ (.int .i64 6) = w3 at *
    have c0 : w3.cell? ⟨P, 0, none⟩ = some (.int .i64 6) := by rw [Lib.cell_of_heap hg3]; rfl
    go_wp2_with fail
    refine (HC.out _ hb3).mono ?_; rintro e w4 ⟨⟨x, hx, rfl⟩, hf4⟩
    go_wp2_with fail
    exact ⟨rfl, ⟨x, hx, rfl⟩, (A3.trans (hf4.mono (by simp))).fewer (Nat.le_of_eq HP.out)⟩
  · obtain ⟨hd1, _⟩ := hdec N l rfl
    obtain ⟨hs1, hs2⟩ := hsuf _ _ hd1
    clear hdec hsuf hd1
    by_cases hN : 200 < N
    · have hmo : most200 (some (N, l)) = none := if_pos hN
      rw [hmo] at HC
      dsimp only
      rw [if_pos hN]
      have HC := Lib.hid HC
      go_enter Tryz.func117, Tryz.ntmps117
      go_wp2_with fail
      rw [HP.out]
      generalize w.alloc (.cells #[.int .i64 0, .int .i64 0, .float .f64 0, .string ⟨#[]⟩, .slice none 0 0, .slice none 0 0] 57) = W0 at *
      refine (HB.out _ hb0).mono ?_; rintro e w1 ⟨rfl, hb1, hf1⟩
      have hg1 := hf1.at hg0 hnP
      have A1 := hf0.trans hf1
      clear hb0 hg0 hf1 hf0
      go_wp2_with fail
      refine (HY.out _ hb1).mono ?_; rintro e w2 ⟨rfl, hb2, hf2⟩
      have hg2 := hf2.at hg1 hnP
      have A2 := (A1.trans hf2).mono (m := [b, P]) (by simp)
      clear hb1 hg1 hf2 A1
      have c0 : w2.cell? ⟨P, 0, none⟩ = some (.int .i64 0) := by rw [Lib.cell_of_heap hg2]; rfl
      have z0 : w2.frozen? ⟨P, 0, none⟩ = false := Lib.frozen_of_heap hg2 0
      have F3 := (Fr.refl [P] w2).setCell ⟨P, 0, none⟩ (by simp) (.int .i64 6)
      have hg3 : (w2.setCell ⟨P, 0, none⟩ (.int .i64 6)).heap[P]? = some (.cells #[.int .i64 6, .int .i64 0, .float .f64 0, .string ⟨#[]⟩, .slice none 0 0, .slice none 0 0] 57 (0, 0)) := heap_setN hg2 0 _
      have hb3 := hb2.kept F3 (by simpa using hbP)
      have A3 := A2.trans (F3.mono (by simp))
      go_wp2_with fail
      clear c0 z0
      generalize w2.setCell ⟨P, 0, none⟩ (.int .i64 6) = w3 at *
      have c0 : w3.cell? ⟨P, 0, none⟩ = some (.int .i64 6) := by rw [Lib.cell_of_heap hg3]; rfl
      go_wp2_with fail
      refine (HC.out _ hb3).mono ?_; rintro e w4 ⟨⟨x, hx, rfl⟩, hf4⟩
      go_wp2_with fail
      exact ⟨rfl, ⟨x, hx, rfl⟩, (A3.trans (hf4.mono (by simp))).fewer (Nat.le_of_eq HP.out)⟩
    · have hmo : most200 (some (N, l)) = some (N, l) := if_neg hN
      rw [hmo] at HC
      dsimp only
      rw [if_neg hN]
      have HC := Lib.hid HC
      have hRR : rdItems (rdV f) true N (q + 1) l = preI [] [] (rdItems (rdV f) true (N - 0) (q + 1) (s.data.toList.drop (s.size - l.length))) := by rw [preI_nil, ← hs1]; rfl
      generalize rdItems (rdV f) true N (q + 1) l = R at *
      have HRR := Lib.hid hRR
      generalize hkk : s.size - l.length = kk at *
      have HKK := Lib.hid hkk
      have hkl : kk ≤ s.size := by omega
      clear hRR hs1 hs2 hkk hmo
      go_enter Tryz.func117, Tryz.ntmps117
      go_wp2_with fail
      rw [HP.out]
      generalize w.alloc (.cells #[.int .i64 0, .int .i64 0, .float .f64 0, .string ⟨#[]⟩, .slice none 0 0, .slice none 0 0] 57) = W0 at *
      refine (HB.out _ hb0).mono ?_; rintro e w1 ⟨rfl, hb1, hf1⟩
      have hg1 := hf1.at hg0 hnP
      have A1 := hf0.trans hf1
      clear hb0 hg0 hf1 hf0
      go_wp2_with fail
      refine (HY.out _ hb1).mono ?_; rintro e w2 ⟨rfl, hb2, hf2⟩
      have hg2 := hf2.at hg1 hnP
      have A2 := (A1.trans hf2).mono (m := [b, P]) (by simp)
      clear hb1 hg1 hf2 A1
      have c0 : w2.cell? ⟨P, 0, none⟩ = some (.int .i64 0) := by rw [Lib.cell_of_heap hg2]; rfl
      have z0 : w2.frozen? ⟨P, 0, none⟩ = false := Lib.frozen_of_heap hg2 0
      have F3 := (Fr.refl [P] w2).setCell ⟨P, 0, none⟩ (by simp) (.int .i64 6)
      have hg3 : (w2.setCell ⟨P, 0, none⟩ (.int .i64 6)).heap[P]? = some (.cells #[.int .i64 6, .int .i64 0, .float .f64 0, .string ⟨#[]⟩, .slice none 0 0, .slice none 0 0] 57 (0, 0)) := heap_setN hg2 0 _
      have hb3 := hb2.kept F3 (by simpa using hbP)
      have A3 := A2.trans (F3.mono (by simp))
      go_wp2_with fail
      clear c0 z0
      generalize w2.setCell ⟨P, 0, none⟩ (.int .i64 6) = w3 at *
      have c0 : w3.cell? ⟨P, 0, none⟩ = some (.int .i64 6) := by rw [Lib.cell_of_heap hg3]; rfl
      go_wp2_with fail
      refine (HC.out _ hb3).mono ?_; rintro e w4 ⟨rfl, hb4, hf4⟩
      dsimp only at hb4 ⊢
      rw [HKK.out] at hb4
      have hg4 := hf4.at hg3 hnP
      have A4 := A3.trans (hf4.mono (by simp))
      clear c0 hb3 hg3 hf4 A3 F3 hb2 hg2 A2
      go_wp2_with fail
      go_loopw [45] (fun iv wr => ∃ (i p : Nat) (ns : List (List UInt8)) (its : List VT) (pn pi : Value) (kk : Nat), i ≤ N ∧ iv = .int .i64 (i : Int) ∧ ns.length = i ∧ its.length = i ∧ (∀ a ∈ ns, a.length ≤ 30) ∧ p ≤ 200 ∧ kk ≤ s.size ∧ RdB b s kk p wr ∧ wr.heap[P]? = some (.cells #[.int .i64 6, .int .i64 0, .float .f64 0, .string ⟨#[]⟩, pn, pi] 57 (0, 0)) ∧ Fr [b, P] w wr ∧ Rows P f ns its pn pi wr ∧ Hid (R = preI ns its (rdItems (rdV f) true (N - i) p (s.data.toList.drop kk)))) (fun iv _ => N - (intOf iv).toNat)
      case atStart => exact ⟨0, q + 1, [], [], .slice none 0 0, .slice none 0 0, kk, by omega, rfl, rfl, rfl, (fun a ha => nomatch ha), by omega, hkl, hb4, hg4, A4, Rows.nil _ _ _, HRR.out⟩
      case round =>
        clear hb4 hg4 A4 HRR
        obtain ⟨i, p, ns, its, pn, pi, kk, hi, rfl, hnl, hil, hna, hp, hkk, hbr, hgr, Ar, hrow, hE⟩ := hrel
        obtain ⟨pa, pl, pc, rfl⟩ : ∃ a c d, pi = .slice a c d := by
          obtain ⟨_, ⟨xs, h1, _⟩, _⟩ := hrow
          rcases h1.2 with ⟨h, _⟩ | ⟨g, cap, cur, h, _⟩
          · exact ⟨_, _, _, h⟩
          · exact ⟨_, _, _, h⟩
        obtain ⟨qa, ql, qc, rfl⟩ : ∃ a c d, pn = .slice a c d := by
          obtain ⟨h1, _⟩ := hrow
          rcases h1.2 with ⟨h, _⟩ | ⟨g, cap, cur, h, _⟩
          · exact ⟨_, _, _, h⟩
          · exact ⟨_, _, _, h⟩
        have c0 : wr.cell? ⟨P, 0, none⟩ = some (.int .i64 6) := by rw [Lib.cell_of_heap hgr]; rfl
        have c4 : wr.cell? ⟨P, 4, none⟩ = some (.slice qa ql qc) := by rw [Lib.cell_of_heap hgr]; rfl
        by_cases hlt : i < N
        · have t7 : decide ((i : Int) < (N : Int)) = true := by simp; omega
          have hS := hE.out
          rw [show N - i = N - (i + 1) + 1 by omega, items_step6] at hS
          have hC : Calls Tryz.prog 147 #[.pointer (some ⟨b, 0, none⟩), .int .i64 30] wr.drew _ := cstrR_any s hs b kk p 30 (by omega) hkk wr.drew hbr.drew
          have hrd := fun a r h => @rdStr_dec 30 (s.data.toList.drop kk) a r h
          have HNAs := Lib.hid hna
          clear hna
          generalize rdStr 30 (s.data.toList.drop kk) = rs at *
          cases rs with
          | none =>
            have HC := Lib.hid hC
            dsimp only at hS
            subst hS
            clear hC hrd hE
            go_wp2_with fail
            go_region_with ((go_at_call 147; (with_reducible refine (HC.out).mono ?_); rintro e w5 ⟨⟨x, hx, rfl⟩, hf5⟩; refine shut_way (w := wr) ⟨rfl, ⟨x, hx, rfl⟩, (Ar.drew.trans (hf5.mono (by simp))).fewer (Nat.le_of_eq HP.out)⟩ ?_))
            all_goals trivial
          | some a =>
            obtain ⟨a, l2⟩ := a
            dsimp only at hS
            obtain ⟨e1, e2⟩ := HSuf.out kk hkk _ _ (hrd a l2 rfl).1
            have HA30 := Lib.hid (hrd a l2 rfl).2
            clear hrd hE
            have HC := Lib.hid hC
            clear hC
            rw [e1] at hS
            have HSS := Lib.hid hS
            have HK2 := Lib.hid (show s.size - l2.length ≤ s.size from Nat.sub_le _ _)
            generalize hk2 : s.size - l2.length = k2 at *
            have HKE := Lib.hid hk2
            clear hS e1 hk2 e2
            obtain ⟨i0, hi0, hz0, hz1, hz2⟩ := Go.info_parts zero_VT
            have HII := Lib.hid hi0; have HZ0 := Lib.hid hz0; have HZ1 := Lib.hid hz1; have HZ2 := Lib.hid hz2
            clear hi0 hz0 hz1 hz2
            obtain ⟨j0, hi0, hz0, hz1, hz2⟩ := Go.info_parts zero_str
            have HIJ := Lib.hid hi0; have HY0 := Lib.hid hz0; have HY1 := Lib.hid hz1; have HY2 := Lib.hid hz2
            clear hi0 hz0 hz1 hz2
            have HIL := Lib.hid hil
            have HNL := Lib.hid hnl
            have HNA := Lib.hid (show ∀ x ∈ ns ++ [a], x.length ≤ 30 from fun x hx => by
              rcases List.mem_append.1 hx with h | h
              · exact HNAs.out x h
              · rw [List.mem_singleton.1 h]; exact HA30.out)
            have hPr := lt_of_block hgr
            have HKn := Lib.hid (fun (x : World) (h : x.heap[P]? = some (.cells #[.int .i64 6, .int .i64 0, .float .f64 0, .string ⟨#[]⟩, .slice qa ql qc, .slice pa pl pc] 57 (0, 0))) => (show x.cell? ⟨P, 4, none⟩ = some (.slice qa ql qc) ∧ x.frozen? ⟨P, 4, none⟩ = false from ⟨by rw [Lib.cell_of_heap h]; rfl, Lib.frozen_of_heap h 4⟩))
            go_wp2_with fail
            go_region_law (first
                | ((go_simp; go_at_call 147; (with_reducible refine (HC.out).mono ?_); rintro e w5 ⟨rfl, G1, G2⟩; dsimp only at G1; rw [HKE.out] at G1; have g5 := G2.at hgr hnP; obtain ⟨k5, z5⟩ := HKn.out _ g5; have a5 := (World.cell?_alloc_some w5 _ (.cells #[.string ⟨a.toArray⟩] 9) (by rw [k5]; rfl)).trans k5; have hrA := names_ready hrow G2 hbl (.cells #[.string ⟨a.toArray⟩] 9); have hx := hrA.hn; dsimp only))
                | ((refine step_append_lies _ (by rfl) _ _ _ (by rfl) (P + 1) 9 j0 _ 1 16 Tryz.underlying42 HIJ.out HY0.out HY1.out HY2.out rfl (by omega) (.slice qa ql qc) ns.length _ (by rfl) hx ⟨w5.heap.size, 0, none⟩ 1 1 [.string ⟨a.toArray⟩] (by rfl) (by rfl) (World.news_of_block (cs := #[.string ⟨a.toArray⟩]) (t := 9) (fr := (0, 0)) (heap_alloc_new w5 _)) (by simp [Value.oneCell']) (by omega) (by unfold maxLen; omega) (by omega) (by have := G2.size; simp at this ⊢; omega) (w5.heap.size + 1) (by simp) ?_; intro g cap u4 hown4 hgrow hat hlt4; have hrF := hrA.name hown4 hgrow hat (by simp); have hnO : ∀ k, k ≤ P → some k ≠ Value.ownBlock (.slice qa ql qc) := fun k hk e => absurd (own_lt hx e.symm).1 (Nat.not_le_of_lt (Nat.lt_succ_of_le hk)); have g4 := (hgrow.block P (Nat.lt_of_lt_of_le (lt_of_block g5) (by simp)) (hnO P (Nat.le_refl _))).trans ((Lib.alloc_old w5 _ P (lt_of_block g5)).trans g5); obtain ⟨k4, z4⟩ := HKn.out _ g4)))
            all_goals
              have hbu : b < w5.heap.size := lt_of_block G1
              have F6 := ((Fr.refl [P] u4).setCell ⟨P, 4, none⟩ (by simp) (.slice (some ⟨g, 0, none⟩) (ns.length + 1) cap)).mono (m := [b, P]) (by simp)
              have g6 : (u4.setCell ⟨P, 4, none⟩ (.slice (some ⟨g, 0, none⟩) (ns.length + 1) cap)).heap[P]? = some (.cells #[.int .i64 6, .int .i64 0, .float .f64 0, .string ⟨#[]⟩, .slice (some ⟨g, 0, none⟩) (ns.length + 1) cap, .slice pa pl pc] 57 (0, 0)) := heap_setN g4 4 _
              have b6 : RdB b s k2 p (u4.setCell ⟨P, 4, none⟩ (.slice (some ⟨g, 0, none⟩) (ns.length + 1) cap)) := (RdB.kept (((hgrow.block b (Nat.lt_of_lt_of_le hbu (by simp)) (hnO b (by omega))).trans (Lib.alloc_old w5 _ b hbu)).trans G1) ((Fr.refl [P] u4).setCell ⟨P, 4, none⟩ (by simp) (.slice (some ⟨g, 0, none⟩) (ns.length + 1) cap)) (by simpa using hbP))
              have A5 : Fr [b, P] w (w5.alloc (.cells #[.string ⟨a.toArray⟩] 9)) := (Ar.drew.trans (G2.mono (by simp))).alloc _
              have fg : Fr [b, P] w u4 := ⟨hgrow.os.trans A5.os, hgrow.tape.trans A5.tape, hgrow.output.trans A5.output, Nat.le_trans A5.size hgrow.size, fun k hk hn => (hgrow.block k (Nat.lt_of_lt_of_le hk A5.size) (hnO k (by have := HP.out; omega))).trans (A5.block k hk hn)⟩
              have r6 : Rows P f (ns ++ [a]) its (.slice (some ⟨g, 0, none⟩) (ns.length + 1) cap) (.slice pa pl pc) (u4.setCell ⟨P, 4, none⟩ (.slice (some ⟨g, 0, none⟩) (ns.length + 1) cap)) := hrF.far (b := P) ((Fr.refl [P] u4).setCell ⟨P, 4, none⟩ (by simp) (.slice (some ⟨g, 0, none⟩) (ns.length + 1) cap)).grown (Nat.le_refl _)
              rw [HNL.out] at b6 g6 F6 r6
              clear G1 G2 hrF hrA hx a5 A5 hnO k5 z5
              go_wp2_with fail
              generalize hX6 : u4.setCell ⟨P, 4, none⟩ (.slice (some ⟨g, 0, none⟩) (i + 1) cap) = W6 at *
              clear hX6
              have c5 : W6.cell? ⟨P, 5, none⟩ = some (.slice pa pl pc) := by rw [Lib.cell_of_heap g6]; rfl
              have c0 : W6.cell? ⟨P, 0, none⟩ = some (.int .i64 6) := by rw [Lib.cell_of_heap g6]; rfl
              have hPr := lt_of_block g6
              have A6 : Fr [b, P] w W6 := fg.trans F6
              have hI := HIH.out k2 p W6.drew (HK2.out) hp b6.drew
              have hvp := fun v q t => rdV_p f p (s.data.toList.drop k2) v q t
              have hvd := fun v q t => rdV_dec f p (s.data.toList.drop k2) v q t
              have hS := HSS.out
              clear F6 fg hgrow hat hlt4 hown4
              generalize rdV f p (s.data.toList.drop k2) = rv at hI hvp hvd hS
              cases rv with
              | none =>
                have HI := Lib.hid hI
                dsimp only at hS
                subst hS
                clear hI hvp hvd HSS
                go_region_with ((go_at_call 117; (with_reducible refine (HI.out).mono ?_); rintro e w5 ⟨⟨x, hx, rfl⟩, hf5⟩; refine shut_way (w := W6) ⟨rfl, ⟨x, hx, rfl⟩, (A6.drew.trans (hf5.mono (by simp))).fewer (Nat.le_of_eq HP.out)⟩ ?_))
                all_goals trivial
              | some v =>
                obtain ⟨v, p', l'⟩ := v
                dsimp only at hS
                have hp' := hvp v p' l' rfl
                obtain ⟨e1, e2⟩ := HSuf.out k2 HK2.out _ _ (hvd v p' l' rfl).1
                clear hvp hvd HSS
                have HI := Lib.hid hI
                have HSS := Lib.hid hS
                have HE1 := Lib.hid e1
                clear hI hS e1
                have HK := Lib.hid (fun (x : World) (h : x.heap[P]? = some (.cells #[.int .i64 6, .int .i64 0, .float .f64 0, .string ⟨#[]⟩, .slice (some ⟨g, 0, none⟩) (i + 1) cap, .slice pa pl pc] 57 (0, 0))) => (show x.cell? ⟨P, 5, none⟩ = some (.slice pa pl pc) ∧ x.frozen? ⟨P, 5, none⟩ = false from ⟨by rw [Lib.cell_of_heap h]; rfl, Lib.frozen_of_heap h 5⟩))
                go_region_law (first
                    | ((go_simp; go_at_call 117; (with_reducible refine (HI.out).mono ?_); rintro e w5 ⟨cs, rfl, V5, G1, G2⟩; obtain ⟨na, nl, nc, ia, il, ic, rfl⟩ := V5.six; have g5 := G2.at g6 hnP; obtain ⟨k5, z5⟩ := HK.out _ g5; have a5 := (World.cell?_alloc_some w5 _ (.cells #[.int .i64 v.kind, .int .i64 v.num, .float .f64 v.flt, .string ⟨v.str.toArray⟩, .slice na nl nc, .slice ia il ic] 57) (by rw [k5]; rfl)).trans k5; obtain ⟨xs, hx, hrA, hvA⟩ := rows_ready r6 V5 G2 hbl hPr (.cells #[.int .i64 v.kind, .int .i64 v.num, .float .f64 v.flt, .string ⟨v.str.toArray⟩, .slice na nl nc, .slice ia il ic] 57); dsimp only))
                    | ((refine step_append_lies _ (by rfl) _ _ _ (by rfl) (P + 1) 57 i0 _ 6 88 Tryz.underlying55 HII.out HZ0.out HZ1.out HZ2.out rfl (by omega) (.slice pa pl pc) its.length xs (by rfl) hx ⟨w5.heap.size, 0, none⟩ 1 1 [.int .i64 v.kind, .int .i64 v.num, .float .f64 v.flt, .string ⟨v.str.toArray⟩, .slice na nl nc, .slice ia il ic] (by rfl) (by rfl) (World.news_of_block (cs := #[.int .i64 v.kind, .int .i64 v.num, .float .f64 v.flt, .string ⟨v.str.toArray⟩, .slice na nl nc, .slice ia il ic]) (t := 57) (fr := (0, 0)) (heap_alloc_new w5 _)) (by simp [Value.oneCell']) (by omega) (by unfold maxLen; omega) (by omega) (by have := G2.size; simp at this ⊢; omega) (w5.heap.size + 1) (by simp) ?_; intro g2 cap2 u5 hown5 hgrow5 hat5 hlt5; have hrF := hrA.item hx (by rfl) hvA hown5 hgrow5 hat5 (by simp); have hnO : ∀ k, k ≤ P → some k ≠ Value.ownBlock (.slice pa pl pc) := fun k hk e => absurd (own_lt hx e.symm).1 (Nat.not_le_of_lt (Nat.lt_succ_of_le hk)); have g4 := (hgrow5.block P (Nat.lt_of_lt_of_le (lt_of_block g5) (by simp)) (hnO P (Nat.le_refl _))).trans ((Lib.alloc_old w5 _ P (lt_of_block g5)).trans g5); obtain ⟨k4, z4⟩ := HK.out _ g4)))
                all_goals
                  go_wp2_with fail
                  have hbu : b < w5.heap.size := lt_of_block G1
                  have F7 := (Fr.refl [P] u5).setCell ⟨P, 5, none⟩ (by simp) (.slice (some ⟨g2, 0, none⟩) (its.length + 1) cap2)
                  have g7 : (u5.setCell ⟨P, 5, none⟩ (.slice (some ⟨g2, 0, none⟩) (its.length + 1) cap2)).heap[P]? = some (.cells #[.int .i64 6, .int .i64 0, .float .f64 0, .string ⟨#[]⟩, .slice (some ⟨g, 0, none⟩) (i + 1) cap, .slice (some ⟨g2, 0, none⟩) (its.length + 1) cap2] 57 (0, 0)) := heap_setN g4 5 _
                  have b7 : RdB b s (s.size - l'.length) p' (u5.setCell ⟨P, 5, none⟩ (.slice (some ⟨g2, 0, none⟩) (its.length + 1) cap2)) := (RdB.kept (((hgrow5.block b (Nat.lt_of_lt_of_le hbu (by simp)) (hnO b (by omega))).trans (Lib.alloc_old w5 _ b hbu)).trans G1) F7 (by simpa using hbP))
                  have A5 : Fr [b, P] w (w5.alloc (.cells #[.int .i64 v.kind, .int .i64 v.num, .float .f64 v.flt, .string ⟨v.str.toArray⟩, .slice na nl nc, .slice ia il ic] 57)) := (A6.drew.trans (G2.mono (by simp))).alloc _
                  have fg : Fr [b, P] w u5 := ⟨hgrow5.os.trans A5.os, hgrow5.tape.trans A5.tape, hgrow5.output.trans A5.output, Nat.le_trans A5.size hgrow5.size, fun k hk hn => (hgrow5.block k (Nat.lt_of_lt_of_le hk A5.size) (hnO k (by have := HP.out; omega))).trans (A5.block k hk hn)⟩
                  have r7 : Rows P f (ns ++ [a]) (its ++ [v]) (.slice (some ⟨g, 0, none⟩) (i + 1) cap) (.slice (some ⟨g2, 0, none⟩) (its.length + 1) cap2) (u5.setCell ⟨P, 5, none⟩ (.slice (some ⟨g2, 0, none⟩) (its.length + 1) cap2)) := hrF.far (b := P) F7.grown (Nat.le_refl _)
                  rw [HIL.out] at b7 g7 F7 r7
                  go_roundw
                  case rel => exact ⟨i + 1, p', ns ++ [a], its ++ [v], _, _, s.size - l'.length, by omega, by go_num, by simp; exact HNL.out, by simp; exact HIL.out, HNA.out, hp', by omega, b7, g7, fg.trans (F7.mono (by simp)), r7, by show _ = _; rw [← HE1.out]; exact HSS.out⟩
                  case measure => simp [intOf]; omega
        · have t7 : decide ((i : Int) < (N : Int)) = false := by simp; omega
          have hiN : i = N := by omega
          have hS := hE.out
          rw [show N - i = 0 by omega, rdItems] at hS
          simp only [preI, List.append_nil] at hS
          subst hS
          have hnode := hrow.node (K := 6) (by omega) (by omega) (fun s hs => Nat.le_trans (hna s hs) (by omega)) (by omega)
          have HD := Lib.hid (show s.size - (s.data.toList.drop kk).length = kk by rw [List.length_drop]; show s.size - (s.data.size - kk) = kk; have : s.data.size = s.size := rfl; omega)
          clear c4 hna
          go_upto_region 22 with (fail)
          clear c0
          have e0 : wr.cell? ⟨P, 0, none⟩ = some (.int .i64 6) := by rw [Lib.cell_of_heap hgr]; rfl
          have z0 : wr.frozen? ⟨P, 0, none⟩ = false := Lib.frozen_of_heap hgr 0
          have e1 : wr.cell? ⟨P, 1, none⟩ = some (.int .i64 0) := by rw [Lib.cell_of_heap hgr]; rfl
          have z1 : wr.frozen? ⟨P, 1, none⟩ = false := Lib.frozen_of_heap hgr 1
          have e2 : wr.cell? ⟨P, 2, none⟩ = some (.float .f64 0) := by rw [Lib.cell_of_heap hgr]; rfl
          have z2 : wr.frozen? ⟨P, 2, none⟩ = false := Lib.frozen_of_heap hgr 2
          have e3 : wr.cell? ⟨P, 3, none⟩ = some (.string ⟨#[]⟩) := by rw [Lib.cell_of_heap hgr]; rfl
          have z3 : wr.frozen? ⟨P, 3, none⟩ = false := Lib.frozen_of_heap hgr 3
          have e4 : wr.cell? ⟨P, 4, none⟩ = some (.slice qa ql qc) := by rw [Lib.cell_of_heap hgr]; rfl
          have z4 : wr.frozen? ⟨P, 4, none⟩ = false := Lib.frozen_of_heap hgr 4
          have e5 : wr.cell? ⟨P, 5, none⟩ = some (.slice pa pl pc) := by rw [Lib.cell_of_heap hgr]; rfl
          have z5 : wr.frozen? ⟨P, 5, none⟩ = false := Lib.frozen_of_heap hgr 5
          go_wp2_with fail
          have hgF : (((((((wr).setCell ⟨P, 0, none⟩ (.int .i64 6)).setCell ⟨P, 1, none⟩ (.int .i64 0)).setCell ⟨P, 2, none⟩ (.float .f64 0)).setCell ⟨P, 3, none⟩ (.string ⟨#[]⟩)).setCell ⟨P, 4, none⟩ (.slice qa ql qc)).setCell ⟨P, 5, none⟩ (.slice pa pl pc)).heap[P]? = some (.cells #[.int .i64 6, .int .i64 0, .float .f64 0, .string ⟨#[]⟩, .slice qa ql qc, .slice pa pl pc] 57 (0, 0)) := heap_setN (heap_setN (heap_setN (heap_setN (heap_setN (heap_setN hgr 0 _) 1 _) 2 _) 3 _) 4 _) 5 _
          have FF := ((((((Fr.refl [P] wr).setCell ⟨P, 0, none⟩ (by simp) (.int .i64 6)).setCell ⟨P, 1, none⟩ (by simp) (.int .i64 0)).setCell ⟨P, 2, none⟩ (by simp) (.float .f64 0)).setCell ⟨P, 3, none⟩ (by simp) (.string ⟨#[]⟩)).setCell ⟨P, 4, none⟩ (by simp) (.slice qa ql qc)).setCell ⟨P, 5, none⟩ (by simp) (.slice pa pl pc)
          clear e0 z0 e1 z1 e2 z2 e3 z3 e4 z4 e5 z5
          generalize ((((((wr).setCell ⟨P, 0, none⟩ (.int .i64 6)).setCell ⟨P, 1, none⟩ (.int .i64 0)).setCell ⟨P, 2, none⟩ (.float .f64 0)).setCell ⟨P, 3, none⟩ (.string ⟨#[]⟩)).setCell ⟨P, 4, none⟩ (.slice qa ql qc)).setCell ⟨P, 5, none⟩ (.slice pa pl pc) = X at *
          have y0 : X.cell? ⟨P, 0, none⟩ = some (.int .i64 6) := by rw [Lib.cell_of_heap hgF]; rfl
          have y1 : X.cell? ⟨P, 1, none⟩ = some (.int .i64 0) := by rw [Lib.cell_of_heap hgF]; rfl
          have y2 : X.cell? ⟨P, 2, none⟩ = some (.float .f64 0) := by rw [Lib.cell_of_heap hgF]; rfl
          have y3 : X.cell? ⟨P, 3, none⟩ = some (.string ⟨#[]⟩) := by rw [Lib.cell_of_heap hgF]; rfl
          have y4 : X.cell? ⟨P, 4, none⟩ = some (.slice qa ql qc) := by rw [Lib.cell_of_heap hgF]; rfl
          have y5 : X.cell? ⟨P, 5, none⟩ = some (.slice pa pl pc) := by rw [Lib.cell_of_heap hgF]; rfl
          have hrX := hbr.kept FF (by simpa using hbP)
          have hff := (Ar.trans (FF.mono (m := [b, P]) (by simp))).fewer (Nat.le_of_eq HP.out)
          refine bodyPost_ret (v := .agg #[.int .i64 6, .int .i64 0, .float .f64 0, .string ⟨#[]⟩, .slice qa ql qc, .slice pa pl pc]) (by simp [results, Tryz.results117, go_sem, y0, y1, y2, y3, y4, y5]) rfl ?_
          exact ⟨_, rfl, hnode.kept FF.size (fun g hg hl => ⟨by have := HP.out; omega, FF.block g hl (by simp; omega)⟩), by rw [HD.out]; exact hrX, hff⟩
end Go.Proofs.YtnaamiecljinnaaGreat
