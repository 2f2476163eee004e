/-
  Yo in one text.
-/
import Derived.Below
import Derived.BigQuiet
import Derived.Deep.AppendLies
import Derived.Deep.Cut
import Derived.Deep.CutBlock
import Derived.Deep.DeepCutAuto
import Derived.Deep.QuietTactic
import Derived.Deep.RegionHeld3
import Derived.Deep.RegionLaw
import Derived.Deep.RegionWith
import Derived.Defers
import Derived.Handy
import Derived.IntWalk
import Derived.Laws.Bits64b
import Derived.Laws.FloatBits
import Derived.Lib.AtoiAll
import Derived.Lib.Builder
import Derived.Lib.Bytes
import Derived.Lib.FrozenHead2
import Derived.Lib.Hide
import Derived.Lib.IndexMore
import Derived.Lib.ItoaNum
import Derived.Lib.MinMax
import Derived.Lib.OthersKept
import Derived.Lib.ParseIntB
import Derived.Lib.UnsafeStr
import Derived.LoopTactic
import Derived.OneCell
import Derived.OwnWalk
import Derived.Recover
import Derived.RegionTactic
import Derived.Shelf.Abstract
import Derived.Tactics
import Derived.Tactics2
import Derived.Test.YtnaamiecljinnaaGreatChecked
import Derived.WalkKit
import Derived.WalkLawsBesides
import Derived.WalkSpells
import Ieee.Arith
import Derived.Test.YtnaamiecljinnaaGreatS00
import Derived.Test.YtnaamiecljinnaaGreatS02
import Derived.Test.YtnaamiecljinnaaGreatS03
import Derived.Test.YtnaamiecljinnaaGreatS08
import Derived.Test.YtnaamiecljinnaaGreatS09
import Derived.Test.YtnaamiecljinnaaGreatS10
import Derived.Test.YtnaamiecljinnaaGreatS11
namespace Go.Proofs.YtnaamiecljinnaaGreat
open Go.RowKit
theorem ValIn.six {S : Nat → Prop} {w : World} : ∀ {d : Nat} {v : VT} {cs : Array Value}, ValIn S w d v cs → ∃ na nl nc ia il ic, cs = #[.int .i64 v.kind, .int .i64 v.num, .float .f64 v.flt, .string ⟨v.str.toArray⟩, .slice na nl nc, .slice ia il ic]
  | 0, _, _, h => h.elim
  | d + 1, v, cs, h => by
    obtain ⟨pn, pi, rfl, _, _, _, _, ⟨_, _, h6⟩, _, h8⟩ := h
    rcases h6 with ⟨_, a, c, rfl⟩ | ⟨g, o, c, rfl, _⟩ <;> rcases h8 with ⟨_, a', c', rfl⟩ | ⟨g', o', c', rfl, _⟩ <;> exact ⟨_, _, _, _, _, _, rfl⟩
theorem rows_ready {P f b : Nat} {ns : List (List UInt8)} {its : List VT} {pn pi : Value} {w w5 : World} {v : VT} {cs : Array Value} (h : Rows P f ns its pn pi w) (V5 : ValIn (fun g => w.drew.heap.size ≤ g) w5 f v cs) (G2 : Fr [b] w.drew w5) (hbl : b < P) (hP : P < w.heap.size) (o : Obj) :
    ∃ xs, (w5.alloc o).ownsRow (P + 1) 57 6 pi its.length xs ∧ Rows P f ns its pn pi (w5.alloc o) ∧ ValIn (Sep P pn pi) (w5.alloc o) f v cs := by
  have h1 : Rows P f ns its pn pi w.drew := h.far (b := b) ⟨rfl, rfl, rfl, Nat.le_refl _, fun _ _ _ => rfl⟩ (by omega)
  have h2 := (h1.far G2.grown (by omega)).far (World.grownBy_alloc w5 o (some b)) (by omega)
  obtain ⟨xs, hx, _⟩ := h2.hi
  obtain ⟨ys, hy, _⟩ := h.hi
  refine ⟨xs, hx, h2, V5.grown (World.grownBy_alloc w5 o none) fun g hg _ => ⟨⟨by have : w.heap.size ≤ g := hg; omega, fun e => ?_, fun e => ?_⟩, by simp⟩⟩
  · have : g < w.heap.size := (own_lt h.hn e).2
    have h9 : w.heap.size ≤ g := hg
    omega
  · have : g < w.heap.size := (own_lt hy e).2
    have h9 : w.heap.size ≤ g := hg
    omega
set_option maxRecDepth 100000 in
set_option maxHeartbeats 8000000 in
theorem cvalR_k5 (s : ByteArray) (hs : s.size ≤ 100000000) (b k q f : Nat) (hf : f ≤ 11) (hq : q < 200) (hk : k < s.size) (hc : (s[k]'hk).toNat = 5) (ih : ReadsV s b f) (w : World) (hb : RdB b s k q w) :
    Calls Tryz.prog 117 #[.pointer (some ⟨b, 0, none⟩), .int .i64 ((12 - f : Nat) : Int)] w (RvPost b s (f + 1) w (rdV (f + 1) q (s.data.toList.drop k))) := by
  have hL : s.data.toList.length = s.size := by simp
  have hg : s.data.toList.getD k 0 = s[k]'hk := by simp [List.getD, hk]; rfl
  have hR := rdV_step (f := f) (p := q) (s.data.toList.getD k 0) (s.data.toList.drop (k + 1)) hq
  rw [← drop_byte (by rw [hL]; exact hk), hg, hc] at hR
  rw [if_neg (by decide), if_neg (by decide), if_neg (by decide), if_neg (by decide), if_pos (.inl rfl), show decide ((5 : Nat) = 6) = false from rfl] at hR
  have HC := fun w hb => cmany_any s hs b (k + 1) (q + 1) (by omega) w hb
  have hdec := fun n r => @rdU_dec (s.data.toList.drop (k + 1)) n r
  have hsuf := fun (a r : List UInt8) (h : s.data.toList.drop (k + 1) = a ++ r) => suf_of h (by rw [hL]; omega)
  have hsuf2 := fun (kk : Nat) (hkk : kk ≤ s.size) (a r : List UInt8) (h : s.data.toList.drop kk = a ++ r) => suf_of h (by rw [hL]; exact hkk)
  rw [hL] at hsuf hsuf2
  have HSuf := Lib.hid hsuf2
  have HIH := Lib.hid ih
  have wD : IntKind.i64.wrap (((12 - f : Nat) : Int) + 1) = ((13 - f : Nat) : Int) := by rw [IntKind.wrap_i64]; omega
  have hsf : ∀ (a : Addr) (x : Nat) (m : Mode) (w : World), (store a (.float .f64 x) m).run Tryz.prog w = stored Tryz.prog w a (.float .f64 x) m := fun a x m w => run_store _ w a _ m rfl
  have HB := Lib.hid (fun w hb => (show Calls Tryz.prog 144 #[.pointer (some ⟨b, 0, none⟩), .int .i64 ((12 - f : Nat) : Int)] w (fun e w' => e = .returned (.tuple #[]) ∧ RdB b s k (q + 1) w' ∧ Fr [b] w w') from by
    have h := cbegin_any s b k q (12 - f) (by omega) (by omega) w hb
    simp only [if_pos (show 12 - f ≤ 12 ∧ q < 200 by omega)] at h
    exact h))
  have HY := Lib.hid (fun w hb => (show Calls Tryz.prog 143 #[.pointer (some ⟨b, 0, none⟩)] w (fun e w' => e = .returned (.int .u8 5) ∧ RdB b s (k + 1) (q + 1) w' ∧ Fr [b] w w') from by
    have h := cbyte_yes s (by omega) b k (q + 1) hk w hb
    rw [hc] at h
    exact h))
  have hbl := hb.lt
  have hb0 : RdB b s k q (w.alloc (.cells #[.int .i64 0, .int .i64 0, .float .f64 0, .string ⟨#[]⟩, .slice none 0 0, .slice none 0 0] 57)) := (Lib.alloc_old w _ b hbl).trans hb
  have hf0 := (Fr.refl [b] w).alloc (.cells #[.int .i64 0, .int .i64 0, .float .f64 0, .string ⟨#[]⟩, .slice none 0 0, .slice none 0 0] 57)
  have hg0 : (w.alloc (.cells #[.int .i64 0, .int .i64 0, .float .f64 0, .string ⟨#[]⟩, .slice none 0 0, .slice none 0 0] 57)).heap[w.heap.size]? = some (.cells #[.int .i64 0, .int .i64 0, .float .f64 0, .string ⟨#[]⟩, .slice none 0 0, .slice none 0 0] 57 (0, 0)) := heap_alloc_new w _
  generalize hgh : w.heap.size = P at *
  have HP := Lib.hid hgh; clear hgh
  have hbP : b ≠ P := by omega
  have hnP : P ∉ [b] := by simp; omega
  have wk : IntKind.i64.wrap 5 = 5 := by decide
  rw [hR]
  clear hR hg hL hc hsuf2 ih
  generalize rdU (s.data.toList.drop (k + 1)) = r at *
  rcases r with _ | ⟨N, l⟩
  · have HC := Lib.hid HC
    clear hdec hsuf
    go_enter Tryz.func117, Tryz.ntmps117
    go_wp2_with fail
    rw [HP.out]
    generalize w.alloc (.cells #[.int .i64 0, .int .i64 0, .float .f64 0, .string ⟨#[]⟩, .slice none 0 0, .slice none 0 0] 57) = W0 at *
    refine (HB.out _ hb0).mono ?_; rintro e w1 ⟨rfl, hb1, hf1⟩
    have hg1 := hf1.at hg0 hnP
    have A1 := hf0.trans hf1
    clear hb0 hg0 hf1 hf0
    go_wp2_with fail
    refine (HY.out _ hb1).mono ?_; rintro e w2 ⟨rfl, hb2, hf2⟩
    have hg2 := hf2.at hg1 hnP
    have A2 := (A1.trans hf2).mono (m := [b, P]) (by simp)
    clear hb1 hg1 hf2 A1
    have c0 : w2.cell? ⟨P, 0, none⟩ = some (.int .i64 0) := by rw [Lib.cell_of_heap hg2]; rfl
    have z0 : w2.frozen? ⟨P, 0, none⟩ = false := Lib.frozen_of_heap hg2 0
    have F3 := (Fr.refl [P] w2).setCell ⟨P, 0, none⟩ (by simp) (.int .i64 5)
    have hg3 : (w2.setCell ⟨P, 0, none⟩ (.int .i64 5)).heap[P]? = some (.cells #[.int .i64 5, .int .i64 0, .float .f64 0, .string ⟨#[]⟩, .slice none 0 0, .slice none 0 0] 57 (0, 0)) := heap_setN hg2 0 _
    have hb3 := hb2.kept F3 (by simpa using hbP)
    have A3 := A2.trans (F3.mono (by simp))
    go_wp2_with fail
    clear c0 z0
    generalize w2.setCell ⟨P, 0, none⟩ (.int .i64 5) = w3 at *
    have c0 : w3.cell? ⟨P, 0, none⟩ = some (.int .i64 5) := by rw [Lib.cell_of_heap hg3]; rfl
    go_wp2_with fail
    refine (HC.out _ hb3).mono ?_; rintro e w4 ⟨⟨x, hx, rfl⟩, hf4⟩
    go_wp2_with fail
    exact ⟨rfl, ⟨x, hx, rfl⟩, (A3.trans (hf4.mono (by simp))).fewer (Nat.le_of_eq HP.out)⟩
  · obtain ⟨hd1, _⟩ := hdec N l rfl
    obtain ⟨hs1, hs2⟩ := hsuf _ _ hd1
    clear hdec hsuf hd1
    by_cases hN : 200 < N
    · have hmo : most200 (some (N, l)) = none := if_pos hN
      rw [hmo] at HC
      dsimp only
      rw [if_pos hN]
      have HC := Lib.hid HC
      go_enter Tryz.func117, Tryz.ntmps117
      go_wp2_with fail
      rw [HP.out]
      generalize w.alloc (.cells #[.int .i64 0, .int .i64 0, .float .f64 0, .string ⟨#[]⟩, .slice none 0 0, .slice none 0 0] 57) = W0 at *
      refine (HB.out _ hb0).mono ?_; rintro e w1 ⟨rfl, hb1, hf1⟩
      have hg1 := hf1.at hg0 hnP
      have A1 := hf0.trans hf1
      clear hb0 hg0 hf1 hf0
      go_wp2_with fail
      refine (HY.out _ hb1).mono ?_; rintro e w2 ⟨rfl, hb2, hf2⟩
      have hg2 := hf2.at hg1 hnP
      have A2 := (A1.trans hf2).mono (m := [b, P]) (by simp)
      clear hb1 hg1 hf2 A1
      have c0 : w2.cell? ⟨P, 0, none⟩ = some (.int .i64 0) := by rw [Lib.cell_of_heap hg2]; rfl
      have z0 : w2.frozen? ⟨P, 0, none⟩ = false := Lib.frozen_of_heap hg2 0
      have F3 := (Fr.refl [P] w2).setCell ⟨P, 0, none⟩ (by simp) (.int .i64 5)
      have hg3 : (w2.setCell ⟨P, 0, none⟩ (.int .i64 5)).heap[P]? = some (.cells #[.int .i64 5, .int .i64 0, .float .f64 0, .string ⟨#[]⟩, .slice none 0 0, .slice none 0 0] 57 (0, 0)) := heap_setN hg2 0 _
      have hb3 := hb2.kept F3 (by simpa using hbP)
      have A3 := A2.trans (F3.mono (by simp))
      go_wp2_with fail
      clear c0 z0
      generalize w2.setCell ⟨P, 0, none⟩ (.int .i64 5) = w3 at *
      have c0 : w3.cell? ⟨P, 0, none⟩ = some (.int .i64 5) := by rw [Lib.cell_of_heap hg3]; rfl
      go_wp2_with fail
      refine (HC.out _ hb3).mono ?_; rintro e w4 ⟨⟨x, hx, rfl⟩, hf4⟩
      go_wp2_with fail
      exact ⟨rfl, ⟨x, hx, rfl⟩, (A3.trans (hf4.mono (by simp))).fewer (Nat.le_of_eq HP.out)⟩
    · have hmo : most200 (some (N, l)) = some (N, l) := if_neg hN
      rw [hmo] at HC
      dsimp only
      rw [if_neg hN]
      have HC := Lib.hid HC
      have hRR : rdItems (rdV f) false N (q + 1) l = preI [] [] (rdItems (rdV f) false (N - 0) (q + 1) (s.data.toList.drop (s.size - l.length))) := by rw [preI_nil, ← hs1]; rfl
      generalize rdItems (rdV f) false N (q + 1) l = R at *
      have HRR := Lib.hid hRR
      generalize hkk : s.size - l.length = kk at *
      have HKK := Lib.hid hkk
      have hkl : kk ≤ s.size := by omega
      clear hRR hs1 hs2 hkk hmo
      go_enter Tryz.func117, Tryz.ntmps117
      go_wp2_with fail
      rw [HP.out]
      generalize w.alloc (.cells #[.int .i64 0, .int .i64 0, .float .f64 0, .string ⟨#[]⟩, .slice none 0 0, .slice none 0 0] 57) = W0 at *
      refine (HB.out _ hb0).mono ?_; rintro e w1 ⟨rfl, hb1, hf1⟩
      have hg1 := hf1.at hg0 hnP
      have A1 := hf0.trans hf1
      clear hb0 hg0 hf1 hf0
      go_wp2_with fail
      refine (HY.out _ hb1).mono ?_; rintro e w2 ⟨rfl, hb2, hf2⟩
      have hg2 := hf2.at hg1 hnP
      have A2 := (A1.trans hf2).mono (m := [b, P]) (by simp)
      clear hb1 hg1 hf2 A1
      have c0 : w2.cell? ⟨P, 0, none⟩ = some (.int .i64 0) := by rw [Lib.cell_of_heap hg2]; rfl
      have z0 : w2.frozen? ⟨P, 0, none⟩ = false := Lib.frozen_of_heap hg2 0
      have F3 := (Fr.refl [P] w2).setCell ⟨P, 0, none⟩ (by simp) (.int .i64 5)
      have hg3 : (w2.setCell ⟨P, 0, none⟩ (.int .i64 5)).heap[P]? = some (.cells #[.int .i64 5, .int .i64 0, .float .f64 0, .string ⟨#[]⟩, .slice none 0 0, .slice none 0 0] 57 (0, 0)) := heap_setN hg2 0 _
      have hb3 := hb2.kept F3 (by simpa using hbP)
      have A3 := A2.trans (F3.mono (by simp))
      go_wp2_with fail
      clear c0 z0
      generalize w2.setCell ⟨P, 0, none⟩ (.int .i64 5) = w3 at *
      have c0 : w3.cell? ⟨P, 0, none⟩ = some (.int .i64 5) := by rw [Lib.cell_of_heap hg3]; rfl
      go_wp2_with fail
      refine (HC.out _ hb3).mono ?_; rintro e w4 ⟨rfl, hb4, hf4⟩
      dsimp only at hb4 ⊢
      rw [HKK.out] at hb4
      have hg4 := hf4.at hg3 hnP
      have A4 := A3.trans (hf4.mono (by simp))
      clear c0 hb3 hg3 hf4 A3 F3 hb2 hg2 A2
      go_wp2_with fail
      go_loopw [45] (fun iv wr => ∃ (i p : Nat) (its : List VT) (pi : Value) (kk : Nat), i ≤ N ∧ iv = .int .i64 (i : Int) ∧ its.length = i ∧ p ≤ 200 ∧ kk ≤ s.size ∧ RdB b s kk p wr ∧ wr.heap[P]? = some (.cells #[.int .i64 5, .int .i64 0, .float .f64 0, .string ⟨#[]⟩, .slice none 0 0, pi] 57 (0, 0)) ∧ Fr [b, P] w wr ∧ Rows P f [] its (.slice none 0 0) pi wr ∧ Hid (R = preI [] its (rdItems (rdV f) false (N - i) p (s.data.toList.drop kk)))) (fun iv _ => N - (intOf iv).toNat)
      case atStart => exact ⟨0, q + 1, [], .slice none 0 0, kk, by omega, rfl, rfl, by omega, hkl, hb4, hg4, A4, Rows.nil _ _ _, HRR.out⟩
      case round =>
        clear hb4 hg4 A4 HRR
        obtain ⟨i, p, its, pi, kk, hi, rfl, hil, hp, hkk, hbr, hgr, Ar, hrow, hE⟩ := hrel
        obtain ⟨pa, pl, pc, rfl⟩ : ∃ a c d, pi = .slice a c d := by
          obtain ⟨_, ⟨xs, h1, _⟩, _⟩ := hrow
          rcases h1.2 with ⟨h, _⟩ | ⟨g, cap, cur, h, _⟩
          · exact ⟨_, _, _, h⟩
          · exact ⟨_, _, _, h⟩
        have c0 : wr.cell? ⟨P, 0, none⟩ = some (.int .i64 5) := by rw [Lib.cell_of_heap hgr]; rfl
        have c5 : wr.cell? ⟨P, 5, none⟩ = some (.slice pa pl pc) := by rw [Lib.cell_of_heap hgr]; rfl
        by_cases hlt : i < N
        · have t7 : decide ((i : Int) < (N : Int)) = true := by simp; omega
          have hS := hE.out
          rw [show N - i = N - (i + 1) + 1 by omega, items_step5] at hS
          have hI := HIH.out kk p wr.drew hkk hp hbr.drew
          have hvp := fun v q t => rdV_p f p (s.data.toList.drop kk) v q t
          have hvd := fun v q t => rdV_dec f p (s.data.toList.drop kk) v q t
          generalize rdV f p (s.data.toList.drop kk) = rv at *
          cases rv with
          | none =>
            have HI := Lib.hid hI
            dsimp only at hS
            subst hS
            clear hI hvp hvd hE
            go_wp2_with fail
            go_region_with ((go_at_call 117; (with_reducible refine (HI.out).mono ?_); rintro e w5 ⟨⟨x, hx, rfl⟩, hf5⟩; refine shut_way (w := wr) ⟨rfl, ⟨x, hx, rfl⟩, (Ar.drew.trans (hf5.mono (by simp))).fewer (Nat.le_of_eq HP.out)⟩ ?_))
            all_goals trivial
          | some v =>
            obtain ⟨v, p', l'⟩ := v
            dsimp only at hS
            have hp' := hvp v p' l' rfl
            obtain ⟨e1, e2⟩ := HSuf.out kk hkk _ _ (hvd v p' l' rfl).1
            clear hvp hvd hE
            have HI := Lib.hid hI
            have HSS := Lib.hid hS
            have HE1 := Lib.hid e1
            clear hI hS e1
            obtain ⟨i0, hi0, hz0, hz1, hz2⟩ := Go.info_parts zero_VT
            have HII := Lib.hid hi0; have HZ0 := Lib.hid hz0; have HZ1 := Lib.hid hz1; have HZ2 := Lib.hid hz2
            clear hi0 hz0 hz1 hz2
            have HIL := Lib.hid hil
            have hPr := lt_of_block hgr
            have HK := Lib.hid (fun (x : World) (h : x.heap[P]? = some (.cells #[.int .i64 5, .int .i64 0, .float .f64 0, .string ⟨#[]⟩, .slice none 0 0, .slice pa pl pc] 57 (0, 0))) => (show x.cell? ⟨P, 5, none⟩ = some (.slice pa pl pc) ∧ x.frozen? ⟨P, 5, none⟩ = false from ⟨by rw [Lib.cell_of_heap h]; rfl, Lib.frozen_of_heap h 5⟩))
            go_wp2_with fail
            go_region_law (first
                | ((go_simp; go_at_call 117; (with_reducible refine (HI.out).mono ?_); rintro e w5 ⟨cs, rfl, V5, G1, G2⟩; obtain ⟨na, nl, nc, ia, il, ic, rfl⟩ := V5.six; have g5 := G2.at hgr hnP; obtain ⟨k5, z5⟩ := HK.out _ g5; have a5 := (World.cell?_alloc_some w5 _ (.cells #[.int .i64 v.kind, .int .i64 v.num, .float .f64 v.flt, .string ⟨v.str.toArray⟩, .slice na nl nc, .slice ia il ic] 57) (by rw [k5]; rfl)).trans k5; obtain ⟨xs, hx, hrA, hvA⟩ := rows_ready hrow V5 G2 hbl hPr (.cells #[.int .i64 v.kind, .int .i64 v.num, .float .f64 v.flt, .string ⟨v.str.toArray⟩, .slice na nl nc, .slice ia il ic] 57); dsimp only))
                | ((refine step_append_lies _ (by rfl) _ _ _ (by rfl) (P + 1) 57 i0 _ 6 88 Tryz.underlying55 HII.out HZ0.out HZ1.out HZ2.out rfl (by omega) (.slice pa pl pc) its.length xs (by rfl) hx ⟨w5.heap.size, 0, none⟩ 1 1 [.int .i64 v.kind, .int .i64 v.num, .float .f64 v.flt, .string ⟨v.str.toArray⟩, .slice na nl nc, .slice ia il ic] (by rfl) (by rfl) (World.news_of_block (cs := #[.int .i64 v.kind, .int .i64 v.num, .float .f64 v.flt, .string ⟨v.str.toArray⟩, .slice na nl nc, .slice ia il ic]) (t := 57) (fr := (0, 0)) (heap_alloc_new w5 _)) (by simp [Value.oneCell']) (by omega) (by unfold maxLen; omega) (by omega) (by have := G2.size; simp at this ⊢; omega) (w5.heap.size + 1) (by simp) ?_; intro g cap u4 hown4 hgrow hat hlt4; have hrF := hrA.item hx (by rfl) hvA hown4 hgrow hat (by simp); have hnO : ∀ k, k ≤ P → some k ≠ Value.ownBlock (.slice pa pl pc) := fun k hk e => absurd (own_lt hx e.symm).1 (Nat.not_le_of_lt (Nat.lt_succ_of_le hk)); have g4 := (hgrow.block P (Nat.lt_of_lt_of_le (lt_of_block g5) (by simp)) (hnO P (Nat.le_refl _))).trans ((Lib.alloc_old w5 _ P (lt_of_block g5)).trans g5); obtain ⟨k4, z4⟩ := HK.out _ g4)))
            all_goals
              go_wp2_with fail
              have hbu : b < w5.heap.size := lt_of_block G1
              have F6 := (Fr.refl [P] u4).setCell ⟨P, 5, none⟩ (by simp) (.slice (some ⟨g, 0, none⟩) (its.length + 1) cap)
              have g6 : (u4.setCell ⟨P, 5, none⟩ (.slice (some ⟨g, 0, none⟩) (its.length + 1) cap)).heap[P]? = some (.cells #[.int .i64 5, .int .i64 0, .float .f64 0, .string ⟨#[]⟩, .slice none 0 0, .slice (some ⟨g, 0, none⟩) (its.length + 1) cap] 57 (0, 0)) := heap_setN g4 5 _
              have b6 : RdB b s (s.size - l'.length) p' (u4.setCell ⟨P, 5, none⟩ (.slice (some ⟨g, 0, none⟩) (its.length + 1) cap)) := (RdB.kept (((hgrow.block b (Nat.lt_of_lt_of_le hbu (by simp)) (hnO b (by omega))).trans (Lib.alloc_old w5 _ b hbu)).trans G1) F6 (by simpa using hbP))
              have A5 : Fr [b, P] w (w5.alloc (.cells #[.int .i64 v.kind, .int .i64 v.num, .float .f64 v.flt, .string ⟨v.str.toArray⟩, .slice na nl nc, .slice ia il ic] 57)) := (Ar.drew.trans (G2.mono (by simp))).alloc _
              have fg : Fr [b, P] w u4 := ⟨hgrow.os.trans A5.os, hgrow.tape.trans A5.tape, hgrow.output.trans A5.output, Nat.le_trans A5.size hgrow.size, fun k hk hn => (hgrow.block k (Nat.lt_of_lt_of_le hk A5.size) (hnO k (by have := HP.out; omega))).trans (A5.block k hk hn)⟩
              have r6 : Rows P f [] (its ++ [v]) (.slice none 0 0) (.slice (some ⟨g, 0, none⟩) (its.length + 1) cap) (u4.setCell ⟨P, 5, none⟩ (.slice (some ⟨g, 0, none⟩) (its.length + 1) cap)) := hrF.far (b := P) F6.grown (Nat.le_refl _)
              rw [HIL.out] at b6 g6 F6 r6
              go_roundw
              case rel => exact ⟨i + 1, p', its ++ [v], _, s.size - l'.length, by omega, by go_num, by simp; exact HIL.out, hp', by omega, b6, g6, fg.trans (F6.mono (by simp)), r6, by show _ = _; rw [← HE1.out]; exact HSS.out⟩
              case measure => simp [intOf]; omega
        · have t7 : decide ((i : Int) < (N : Int)) = false := by simp; omega
          have hiN : i = N := by omega
          have hS := hE.out
          rw [show N - i = 0 by omega, rdItems] at hS
          simp only [preI, List.append_nil] at hS
          subst hS
          have hnode := hrow.node (K := 5) (by omega) (by simp) (fun s hs => nomatch hs) (by omega)
          have HD := Lib.hid (show s.size - (s.data.toList.drop kk).length = kk by rw [List.length_drop]; show s.size - (s.data.size - kk) = kk; have : s.data.size = s.size := rfl; omega)
          clear c5
          go_upto_region 22 with (fail)
          clear c0
          have e0 : wr.cell? ⟨P, 0, none⟩ = some (.int .i64 5) := by rw [Lib.cell_of_heap hgr]; rfl
          have z0 : wr.frozen? ⟨P, 0, none⟩ = false := Lib.frozen_of_heap hgr 0
          have e1 : wr.cell? ⟨P, 1, none⟩ = some (.int .i64 0) := by rw [Lib.cell_of_heap hgr]; rfl
          have z1 : wr.frozen? ⟨P, 1, none⟩ = false := Lib.frozen_of_heap hgr 1
          have e2 : wr.cell? ⟨P, 2, none⟩ = some (.float .f64 0) := by rw [Lib.cell_of_heap hgr]; rfl
          have z2 : wr.frozen? ⟨P, 2, none⟩ = false := Lib.frozen_of_heap hgr 2
          have e3 : wr.cell? ⟨P, 3, none⟩ = some (.string ⟨#[]⟩) := by rw [Lib.cell_of_heap hgr]; rfl
          have z3 : wr.frozen? ⟨P, 3, none⟩ = false := Lib.frozen_of_heap hgr 3
          have e4 : wr.cell? ⟨P, 4, none⟩ = some (.slice none 0 0) := by rw [Lib.cell_of_heap hgr]; rfl
          have z4 : wr.frozen? ⟨P, 4, none⟩ = false := Lib.frozen_of_heap hgr 4
          have e5 : wr.cell? ⟨P, 5, none⟩ = some (.slice pa pl pc) := by rw [Lib.cell_of_heap hgr]; rfl
          have z5 : wr.frozen? ⟨P, 5, none⟩ = false := Lib.frozen_of_heap hgr 5
          go_wp2_with fail
          have hgF : (((((((wr).setCell ⟨P, 0, none⟩ (.int .i64 5)).setCell ⟨P, 1, none⟩ (.int .i64 0)).setCell ⟨P, 2, none⟩ (.float .f64 0)).setCell ⟨P, 3, none⟩ (.string ⟨#[]⟩)).setCell ⟨P, 4, none⟩ (.slice none 0 0)).setCell ⟨P, 5, none⟩ (.slice pa pl pc)).heap[P]? = some (.cells #[.int .i64 5, .int .i64 0, .float .f64 0, .string ⟨#[]⟩, .slice none 0 0, .slice pa pl pc] 57 (0, 0)) := heap_setN (heap_setN (heap_setN (heap_setN (heap_setN (heap_setN hgr 0 _) 1 _) 2 _) 3 _) 4 _) 5 _
          have FF := ((((((Fr.refl [P] wr).setCell ⟨P, 0, none⟩ (by simp) (.int .i64 5)).setCell ⟨P, 1, none⟩ (by simp) (.int .i64 0)).setCell ⟨P, 2, none⟩ (by simp) (.float .f64 0)).setCell ⟨P, 3, none⟩ (by simp) (.string ⟨#[]⟩)).setCell ⟨P, 4, none⟩ (by simp) (.slice none 0 0)).setCell ⟨P, 5, none⟩ (by simp) (.slice pa pl pc)
          clear e0 z0 e1 z1 e2 z2 e3 z3 e4 z4 e5 z5
          generalize ((((((wr).setCell ⟨P, 0, none⟩ (.int .i64 5)).setCell ⟨P, 1, none⟩ (.int .i64 0)).setCell ⟨P, 2, none⟩ (.float .f64 0)).setCell ⟨P, 3, none⟩ (.string ⟨#[]⟩)).setCell ⟨P, 4, none⟩ (.slice none 0 0)).setCell ⟨P, 5, none⟩ (.slice pa pl pc) = X at *
          have y0 : X.cell? ⟨P, 0, none⟩ = some (.int .i64 5) := by rw [Lib.cell_of_heap hgF]; rfl
          have y1 : X.cell? ⟨P, 1, none⟩ = some (.int .i64 0) := by rw [Lib.cell_of_heap hgF]; rfl
          have y2 : X.cell? ⟨P, 2, none⟩ = some (.float .f64 0) := by rw [Lib.cell_of_heap hgF]; rfl
          have y3 : X.cell? ⟨P, 3, none⟩ = some (.string ⟨#[]⟩) := by rw [Lib.cell_of_heap hgF]; rfl
          have y4 : X.cell? ⟨P, 4, none⟩ = some (.slice none 0 0) := by rw [Lib.cell_of_heap hgF]; rfl
          have y5 : X.cell? ⟨P, 5, none⟩ = some (.slice pa pl pc) := by rw [Lib.cell_of_heap hgF]; rfl
          have hrX := hbr.kept FF (by simpa using hbP)
          have hff := (Ar.trans (FF.mono (m := [b, P]) (by simp))).fewer (Nat.le_of_eq HP.out)
          refine bodyPost_ret (v := .agg #[.int .i64 5, .int .i64 0, .float .f64 0, .string ⟨#[]⟩, .slice none 0 0, .slice pa pl pc]) (by simp [results, Tryz.results117, go_sem, y0, y1, y2, y3, y4, y5]) rfl ?_
          exact ⟨_, rfl, hnode.kept FF.size (fun g hg hl => ⟨by have := HP.out; omega, FF.block g hl (by simp; omega)⟩), by rw [HD.out]; exact hrX, hff⟩
end Go.Proofs.YtnaamiecljinnaaGreat
