/-
  Z4 in one text.
-/
import Derived.Below
import Derived.BigQuiet
import Derived.Deep.AppendLies
import Derived.Deep.Cut
import Derived.Deep.CutBlock
import Derived.Deep.DeepCutAuto
import Derived.Deep.QuietTactic
import Derived.Deep.RegionHeld3
import Derived.Deep.RegionLaw
import Derived.Deep.RegionWith
import Derived.Defers
import Derived.Handy
import Derived.IntWalk
import Derived.Laws.Bits64b
import Derived.Laws.FloatBits
import Derived.Lib.AtoiAll
import Derived.Lib.Builder
import Derived.Lib.Bytes
import Derived.Lib.ConvBytes
import Derived.Lib.FrozenHead2
import Derived.Lib.Hide
import Derived.Lib.IndexMore
import Derived.Lib.ItoaNum
import Derived.Lib.MinMax
import Derived.Lib.OthersKept
import Derived.Lib.ParseIntB
import Derived.Lib.UnsafeStr
import Derived.LoopTactic
import Derived.OneCell
import Derived.OwnWalk
import Derived.Recover
import Derived.RegionTactic
import Derived.Shelf.Abstract
import Derived.StillTailTactics
import Derived.Tactics
import Derived.Tactics2
import Derived.Test.YtnaamiecljinnaaGreatChecked
import Derived.WalkKit
import Derived.WalkLawsBesides
import Derived.WalkSpells
import Ieee.Arith
import Derived.Test.YtnaamiecljinnaaGreatS00
import Derived.Test.YtnaamiecljinnaaGreatS02
import Derived.Test.YtnaamiecljinnaaGreatS08
import Derived.Test.YtnaamiecljinnaaGreatS10
import Derived.Test.YtnaamiecljinnaaGreatS11
import Derived.Test.YtnaamiecljinnaaGreatS14
import Derived.Test.YtnaamiecljinnaaGreatS15
import Derived.Test.YtnaamiecljinnaaGreatS18
import Derived.Test.YtnaamiecljinnaaGreatS30
namespace Go.Proofs.YtnaamiecljinnaaGreat
open Go.RowKit
set_option maxRecDepth 100000 in
set_option maxHeartbeats 64000000 in
theorem rpart_any (s : ByteArray) (hs : s.size ≤ 100000000) (b : Nat) (w : World) (hb : SrB b s 0 w) :
    Calls Tryz.prog 24 #[.pointer (some ⟨b, 0, none⟩)] w (PartPost b w (partR s.data.toList)) := by
  have HMy := Lib.hid must_yes
  have HMn := Lib.hid must_no
  have HH := Lib.hid (fun w => hasMagic s w)
  have HNu := Lib.hid (fun l w hb => snumL s hs b l w hb)
  have HMa := Lib.hid (fun l w hb => smanyL s hs b l w hb)
  have HIn := Lib.hid (fun l w hb => sinstL s hs b l w hb)
  have HSo := Lib.hid (fun l w hb => ssomeL s hs b l w hb)
  have HVa := Lib.hid (fun l w hb => svalL s hs b l w hb)
  have hbl := hb.lt
  have hb0 := hb.below ((Below.refl _ _).alloc (Nat.le_refl _) (.cells #[.int .i64 0, .int .i64 0, .slice none 0 0, .slice none 0 0, .slice none 0 0, .slice none 0 0, .slice none 0 0] 28))
  have hf0 := (Fr.refl [b] w).alloc (.cells #[.int .i64 0, .int .i64 0, .slice none 0 0, .slice none 0 0, .slice none 0 0, .slice none 0 0, .slice none 0 0] 28)
  have hg0 : (w.alloc (.cells #[.int .i64 0, .int .i64 0, .slice none 0 0, .slice none 0 0, .slice none 0 0, .slice none 0 0, .slice none 0 0] 28)).heap[w.heap.size]? = some (.cells #[.int .i64 0, .int .i64 0, .slice none 0 0, .slice none 0 0, .slice none 0 0, .slice none 0 0, .slice none 0 0] 28 (0, 0)) := heap_alloc_new w _
  have c0 := hb0.c0; have c1 := hb0.c1; have f1 := hb0.fz 1
  have hRR := partR_eq s.data.toList
  generalize partR s.data.toList = R at *
  generalize hgh : w.heap.size = P at *
  have HP := Lib.hid hgh; clear hgh
  have hbP : b ≠ P := by omega
  have hnP : P ∉ [b] := by simp; omega
  have hbl2 := hbl
  by_cases hmg : s.data.toList.take 4 = magicB
  case neg =>
    rw [decide_eq_false hmg] at HH
    rw [if_neg hmg] at hRR
    have HX := Lib.hid hRR
    clear hRR hmg
    go_enter Tryz.func24, Tryz.ntmps24
    go_wp2_with fail
    rw [HP.out]
    generalize w.alloc (.cells #[.int .i64 0, .int .i64 0, .slice none 0 0, .slice none 0 0, .slice none 0 0, .slice none 0 0, .slice none 0 0] 28) = W0 at *
    refine (HH.out _).mono ?_; rintro e w1 ⟨rfl, rfl⟩
    go_wp2_with fail
    refine (HMn.out _).mono ?_; rintro e w2 ⟨rfl, rfl⟩
    go_wp2_with fail
    exact ⟨rfl, part_none HX.out hf0⟩
  rw [decide_eq_true hmg] at HH
  rw [if_pos hmg] at hRR
  have HRR := Lib.hid hRR
  have h4 : 4 ≤ s.size := by
    have := congrArg List.length hmg
    rw [List.length_take, show s.data.toList.length = s.size by simp] at this
    simp [magicB] at this
    omega
  clear hRR hmg
  go_enter Tryz.func24, Tryz.ntmps24
  go_wp2_with fail
  rw [HP.out]
  generalize w.alloc (.cells #[.int .i64 0, .int .i64 0, .slice none 0 0, .slice none 0 0, .slice none 0 0, .slice none 0 0, .slice none 0 0] 28) = W0 at *
  refine (HH.out _).mono ?_; rintro e w1 ⟨rfl, rfl⟩
  go_wp2_with fail
  refine (HMy.out _).mono ?_; rintro e w2 ⟨rfl, rfl⟩
  go_wp2_with fail
  have A1 : SrL b s (s.data.toList.drop 4) (W0.setCell ⟨b, 1, none⟩ (.int .i64 4)) := ⟨EndOf.start s 4 h4, by
    have e : s.size - (s.data.toList.drop 4).length = 4 := by rw [List.length_drop, show s.data.toList.length = s.size by simp]; omega
    rw [e]; exact hb0.put1 4⟩
  have A2 := hf0.setCell (l := [b]) ⟨b, 1, none⟩ (by simp) (.int .i64 4)
  have A3 := (Fr.refl [b] W0).setCell (l := [b]) ⟨b, 1, none⟩ (by simp) (.int .i64 4)
  have hg1 := A3.at hg0 hnP
  clear A3 hb0 hf0 hg0 c0 c1 f1
  generalize W0.setCell ⟨b, 1, none⟩ (.int .i64 4) = W1 at *
  refine (HNu.out _ _ A1).mono ?_; intro e w3 hp
  rcases sl_or hp with ⟨hn, rfl, hf⟩ | ⟨n0, l0, hn, rfl, B1, B2⟩
  · have HX := Lib.hid (part_none (b := b) (w := w) (show R = none from by rw [HRR.out]; simp only [hn, Option.bind_none]) (A2.trans hf))
    clear hn hp
    go_wp2_with fail
    exact ⟨rfl, HX.out⟩
  have HN0 := Lib.hid hn
  have A4 := A2.trans B2
  have hg3 := B2.at hg1 hnP
  clear A1 A2 hg1 B2 hn hp
  go_wp2_with fail
  refine (HNu.out _ _ B1).mono ?_; intro e w4 hp
  rcases sl_or hp with ⟨hn, rfl, hf⟩ | ⟨n1, l1, hn, rfl, C1, C2⟩
  · have HX := Lib.hid (part_none (b := b) (w := w) (show R = none from by rw [HRR.out]; simp only [HN0.out, hn, Option.bind_some, Option.bind_none]) (A4.trans hf))
    clear hn hp
    go_wp2_with fail
    exact ⟨rfl, HX.out⟩
  have HQ : Hid (R = (listR heldR l1).bind fun y => K0 (n0 : Int) (n1 : Int) y.1 y.2) := by show R = _; rw [HRR.out]; simp only [HN0.out, hn, Option.bind_some]
  have A5 := A4.trans C2
  have hg4 := C2.at hg3 hnP
  clear A4 B1 hg3 C2 hn hp HRR HN0
  have p0 : w4.cell? ⟨P, 0, none⟩ = some (.int .i64 0) := by rw [Lib.cell_of_heap hg4]; rfl
  have p1 : w4.cell? ⟨P, 1, none⟩ = some (.int .i64 0) := by rw [Lib.cell_of_heap hg4]; rfl
  have q0 : w4.frozen? ⟨P, 0, none⟩ = false := Lib.frozen_of_heap hg4 0
  have q1 : w4.frozen? ⟨P, 1, none⟩ = false := Lib.frozen_of_heap hg4 1
  dsimp only
  go_wp2_with fail
  have hgr : ((w4.setCell ⟨P, 0, none⟩ (.int .i64 (n0 : Int))).setCell ⟨P, 1, none⟩ (.int .i64 (n1 : Int))).heap[P]? = some (.cells #[.int .i64 (n0 : Int), .int .i64 (n1 : Int), .slice none 0 0, .slice none 0 0, .slice none 0 0, .slice none 0 0, .slice none 0 0] 28 (0, 0)) := heap_setN (heap_setN hg4 0 _) 1 _
  have F5 := ((Fr.refl [P] w4).setCell ⟨P, 0, none⟩ (by simp) (.int .i64 (n0 : Int))).setCell ⟨P, 1, none⟩ (by simp) (.int .i64 (n1 : Int))
  have hbr := C1.kept F5 (by simpa using hbP)
  have Ar := (A5.mono (m := [b, P]) (by simp)).trans (F5.mono (by simp))
  clear p0 p1 q0 q1 C1 A5 hg4 F5
  generalize (w4.setCell ⟨P, 0, none⟩ (.int .i64 (n0 : Int))).setCell ⟨P, 1, none⟩ (.int .i64 (n1 : Int)) = wr at *
  -- list 0
  go_wp2_with fail
  skip
  refine (HMa.out _ _ hbr).mono ?_; intro e wm hp
  rcases sl_or hp with ⟨hn, rfl, hf⟩ | ⟨N, l1, hn, rfl, G1, F1⟩
  · have HX := Lib.hid (part_none (b := b) (w := w) (show R = none from by rw [HQ.out]; simp only [listR, hn, Option.bind_none]) ((Ar.trans (hf.mono (by simp))).fewer (Nat.le_of_eq HP.out)))
    clear hn hp
    go_wp2_with fail
    exact ⟨rfl, HX.out⟩
  · have HQ1 : Hid (R = ((itsR heldR (N - 0) l1).bind fun y => (K0 (n0 : Int) (n1 : Int)) ([] ++ y.1) y.2)) := by show R = _; rw [HQ.out, listR, hn]; rfl
    have hN5 : N ≤ 500 := manyR_bd hn
    have hgm := F1.at hgr hnP
    have Am := Ar.trans (F1.mono (m := [b, P]) (by simp))
    skip
    clear HQ hn hp hbr hgr Ar F1 
    dsimp only
    go_wp2_with fail
    go_loopw [20] (fun iv wr => ∃ (i : Nat) (its : List It) (pi : Value) (l : List UInt8), i ≤ N ∧ iv = .int .i64 (i : Int) ∧ its.length = i ∧ SrL b s l wr ∧ wr.heap[P]? = some (.cells #[.int .i64 (n0 : Int), .int .i64 (n1 : Int), pi, .slice none 0 0, .slice none 0 0, .slice none 0 0, .slice none 0 0] 28 (0, 0)) ∧ Fr [b, P] w wr ∧ RowIt P 12 5 1 11 59 its pi wr ∧ Hid (R = ((itsR heldR (N - i) l).bind fun y => (K0 (n0 : Int) (n1 : Int)) (its ++ y.1) y.2))) (fun iv _ => N - (intOf iv).toNat)
    case atStart => exact ⟨0, [], .slice none 0 0, l1, by omega, rfl, rfl, G1, hgm, Am, RowIt.nil _ _ _ _ _ _ _, HQ1⟩
    case round =>
      clear G1 hgm Am HQ1 
      obtain ⟨i, its, pi, l, hi, rfl, hil, hbr, hgr, Ar, hrow, hE⟩ := hrel
      obtain ⟨pa, pl, pc, rfl⟩ : ∃ a c d, pi = .slice a c d := by
        obtain ⟨xs, h1, _⟩ := hrow
        rcases h1.2 with ⟨h, _⟩ | ⟨g, cap, cur, h, _⟩
        · exact ⟨_, _, _, h⟩
        · exact ⟨_, _, _, h⟩
      by_cases hlt : i < N
      · have t7 : decide ((i : Int) < (N : Int)) = true := by simp; omega
        have hS := hE.out
        rw [show N - i = N - (i + 1) + 1 by omega, its_stepR] at hS
        have HS := Lib.hid hS
        clear hS hE
        obtain ⟨i0, hi0, hz0, hz1, hz2⟩ := Go.info_parts zero_it0
        have HII := Lib.hid hi0; have HZ0 := Lib.hid hz0; have HZ1 := Lib.hid hz1; have HZ2 := Lib.hid hz2
        clear hi0 hz0 hz1 hz2
        have HIL := Lib.hid hil
        have hPr := lt_of_block hgr
        have c2 : wr.cell? ⟨P, 2, none⟩ = some (.slice pa pl pc) := by rw [Lib.cell_of_heap hgr]; rfl
        have HK := Lib.hid (fun (x : World) (h : x.heap[P]? = some (.cells #[.int .i64 (n0 : Int), .int .i64 (n1 : Int), .slice pa pl pc, .slice none 0 0, .slice none 0 0, .slice none 0 0, .slice none 0 0] 28 (0, 0))) => (show x.cell? ⟨P, 2, none⟩ = some (.slice pa pl pc) ∧ x.frozen? ⟨P, 2, none⟩ = false from ⟨by rw [Lib.cell_of_heap h]; rfl, Lib.frozen_of_heap h 2⟩))
        have A0 := Ar.drew
        have F0 : Fr [b] wr.drew wr.drew := Fr.refl _ _
        have G0 := hbr.drew
        have g0 : wr.drew.heap[P]? = _ := hgr
        go_wp2_with fail
        go_region_law (first
            | ((go_simp; go_at_call 48; (with_reducible refine (HNu.out _ _ G0).mono ?_); intro e u1 hp; rcases sl_or hp with ⟨hn, rfl, hf⟩ | ⟨m1, l1, hn, rfl, G1, E1⟩; exact ⟨rfl, part_none (show R = none from by rw [HS.out]; simp only [heldR, hn, Option.bind_none]) ((A0.trans (hf.mono (by simp))).fewer (Nat.le_of_eq HP.out))⟩; have H1 := Lib.hid hn; clear hn hp; have g1 := E1.at g0 hnP; obtain ⟨k1, z1⟩ := HK.out _ g1; have A1 := A0.trans (E1.mono (m := [b, P]) (by simp)); have F1 := F0.trans E1; dsimp only))
            | ((go_simp; go_at_call 48; (with_reducible refine (HNu.out _ _ G1).mono ?_); intro e u2 hp; rcases sl_or hp with ⟨hn, rfl, hf⟩ | ⟨m2, l2, hn, rfl, G2, E2⟩; exact ⟨rfl, part_none (show R = none from by rw [HS.out]; simp only [heldR, H1.out, hn, Option.bind_some, Option.bind_none]) ((A1.trans (hf.mono (by simp))).fewer (Nat.le_of_eq HP.out))⟩; have H2 := Lib.hid hn; clear hn hp; have g2 := E2.at g1 hnP; obtain ⟨k2, z2⟩ := HK.out _ g2; have A2 := A1.trans (E2.mono (m := [b, P]) (by simp)); have F2 := F1.trans E2; dsimp only))
            | ((go_simp; go_at_call 48; (with_reducible refine (HNu.out _ _ G2).mono ?_); intro e u3 hp; rcases sl_or hp with ⟨hn, rfl, hf⟩ | ⟨m3, l3, hn, rfl, G3, E3⟩; exact ⟨rfl, part_none (show R = none from by rw [HS.out]; simp only [heldR, H1.out, H2.out, hn, Option.bind_some, Option.bind_none]) ((A2.trans (hf.mono (by simp))).fewer (Nat.le_of_eq HP.out))⟩; have H3 := Lib.hid hn; clear hn hp; have g3 := E3.at g2 hnP; obtain ⟨k3, z3⟩ := HK.out _ g3; have A3 := A2.trans (E3.mono (m := [b, P]) (by simp)); have F3 := F2.trans E3; dsimp only))
            | ((go_simp; go_at_call 50; (with_reducible refine (HIn.out _ _ G3).mono ?_); intro e u4 hp; rcases si_or hp with ⟨hn, rfl, hf⟩ | ⟨m4, q4, l4, hn, rfl, G4, E4⟩; exact ⟨rfl, part_none (show R = none from by rw [HS.out]; simp only [heldR, H1.out, H2.out, H3.out, hn, Option.bind_some, Option.bind_none]) ((A3.trans (hf.mono (by simp))).fewer (Nat.le_of_eq HP.out))⟩; have H4 := Lib.hid hn; clear hn hp; have g4 := E4.at g3 hnP; obtain ⟨k4, z4⟩ := HK.out _ g4; have A4 := A3.trans (E4.mono (m := [b, P]) (by simp)); have F4 := F3.trans E4; dsimp only))
            | ((go_simp; go_at_call 51; (with_reducible refine (HSo.out _ _ G4).mono ?_); intro e u5 hp; rcases sv_or hp with ⟨hn, rfl, hf⟩ | ⟨v5, l5, na5, nl5, nc5, ia5, il5, ic5, hn, rfl, V5, G5, E5⟩; exact ⟨rfl, part_none (show R = none from by rw [HS.out]; simp only [heldR, H1.out, H2.out, H3.out, H4.out, hn, Option.bind_some, Option.bind_none]) ((A4.trans (hf.mono (by simp))).fewer (Nat.le_of_eq HP.out))⟩; have H5 := Lib.hid hn; clear hn hp; have g5 := E5.at g4 hnP; obtain ⟨k5, z5⟩ := HK.out _ g5; have A5 := A4.trans (E5.mono (m := [b, P]) (by simp)); have F5 := F4.trans E5; have aL := (World.cell?_alloc_some u5 _ (.cells #[.int .i64 (m1 : Int), .int .i64 (m2 : Int), .int .i64 (m3 : Int), .int .i64 (m4 : Int), .int .i64 (q4 : Int), .int .i64 v5.kind, .int .i64 v5.num, .float .f64 v5.flt, .string ⟨v5.str.toArray⟩, .slice na5 nl5 nc5, .slice ia5 il5 ic5] 59) (by rw [k5]; rfl)).trans k5; obtain ⟨xs, hx, hrA⟩ := row_ready hrow F5 hbl (.cells #[.int .i64 (m1 : Int), .int .i64 (m2 : Int), .int .i64 (m3 : Int), .int .i64 (m4 : Int), .int .i64 (q4 : Int), .int .i64 v5.kind, .int .i64 v5.num, .float .f64 v5.flt, .string ⟨v5.str.toArray⟩, .slice na5 nl5 nc5, .slice ia5 il5 ic5] 59); have W5 := val_ready hrow V5 (by have := F4.size; simp at this; omega) hPr (.cells #[.int .i64 (m1 : Int), .int .i64 (m2 : Int), .int .i64 (m3 : Int), .int .i64 (m4 : Int), .int .i64 (q4 : Int), .int .i64 v5.kind, .int .i64 v5.num, .float .f64 v5.flt, .string ⟨v5.str.toArray⟩, .slice na5 nl5 nc5, .slice ia5 il5 ic5] 59); have hvA : ItIn (Off P (.slice pa pl pc)) (u5.alloc (.cells #[.int .i64 (m1 : Int), .int .i64 (m2 : Int), .int .i64 (m3 : Int), .int .i64 (m4 : Int), .int .i64 (q4 : Int), .int .i64 v5.kind, .int .i64 v5.num, .float .f64 v5.flt, .string ⟨v5.str.toArray⟩, .slice na5 nl5 nc5, .slice ia5 il5 ic5] 59)) 12 5 1 ([(m1 : Int), (m2 : Int), (m3 : Int), (m4 : Int), (q4 : Int)], [v5]) #[.int .i64 (m1 : Int), .int .i64 (m2 : Int), .int .i64 (m3 : Int), .int .i64 (m4 : Int), .int .i64 (q4 : Int), .int .i64 v5.kind, .int .i64 v5.num, .float .f64 v5.flt, .string ⟨v5.str.toArray⟩, .slice na5 nl5 nc5, .slice ia5 il5 ic5] := ⟨rfl, rfl, [#[.int .i64 v5.kind, .int .i64 v5.num, .float .f64 v5.flt, .string ⟨v5.str.toArray⟩, .slice na5 nl5 nc5, .slice ia5 il5 ic5]], rfl, fun i hi => by match i, hi with | 0, _ => exact W5, rfl⟩; dsimp only))
            | ((refine step_append_lies _ (by rfl) _ _ _ (by rfl) (P + 1) 59 i0 _ 11 128 Tryz.underlying22 HII.out HZ0.out HZ1.out HZ2.out rfl (by omega) (.slice pa pl pc) its.length xs (by rfl) hx ⟨u5.heap.size, 0, none⟩ 1 1 [.int .i64 (m1 : Int), .int .i64 (m2 : Int), .int .i64 (m3 : Int), .int .i64 (m4 : Int), .int .i64 (q4 : Int), .int .i64 v5.kind, .int .i64 v5.num, .float .f64 v5.flt, .string ⟨v5.str.toArray⟩, .slice na5 nl5 nc5, .slice ia5 il5 ic5] (by rfl) (by rfl) (World.news_of_block (cs := #[.int .i64 (m1 : Int), .int .i64 (m2 : Int), .int .i64 (m3 : Int), .int .i64 (m4 : Int), .int .i64 (q4 : Int), .int .i64 v5.kind, .int .i64 v5.num, .float .f64 v5.flt, .string ⟨v5.str.toArray⟩, .slice na5 nl5 nc5, .slice ia5 il5 ic5]) (t := 59) (fr := (0, 0)) (heap_alloc_new u5 _)) (by simp [Value.oneCell']) (by omega) (by unfold maxLen; omega) (by omega) (by have := F5.size; simp at this ⊢; omega) (u5.heap.size + 1) (by simp) ?_; intro g cap u9 hown hgrow hat hlt9; have hrF := hrA.item hx (by rfl) hvA hown hgrow hat (by simp); have hnO : ∀ k, k ≤ P → some k ≠ Value.ownBlock (.slice pa pl pc) := fun k hk e => absurd (own_lt hx e.symm).1 (Nat.not_le_of_lt (Nat.lt_succ_of_le hk)); have g9 := (hgrow.block P (Nat.lt_of_lt_of_le (lt_of_block g5) (by simp)) (hnO P (Nat.le_refl _))).trans ((Lib.alloc_old u5 _ P (lt_of_block g5)).trans g5); obtain ⟨k9, z9⟩ := HK.out _ g9)))
        all_goals
          go_wp2_with fail
          have hbu : b < u5.heap.size := G5.lt
          have F6 := (Fr.refl [P] u9).setCell ⟨P, 2, none⟩ (by simp) (.slice (some ⟨g, 0, none⟩) (its.length + 1) cap)
          have g6 : (u9.setCell ⟨P, 2, none⟩ (.slice (some ⟨g, 0, none⟩) (its.length + 1) cap)).heap[P]? = some (.cells #[.int .i64 (n0 : Int), .int .i64 (n1 : Int), .slice (some ⟨g, 0, none⟩) (its.length + 1) cap, .slice none 0 0, .slice none 0 0, .slice none 0 0, .slice none 0 0] 28 (0, 0)) := heap_setN g9 2 _
          have b9 : SrL b s l5 u9 := ⟨G5.1, ((hgrow.block b (Nat.lt_of_lt_of_le hbu (by simp)) (hnO b (by omega))).trans (Lib.alloc_old u5 _ b hbu)).trans G5.2⟩
          have b6 : SrL b s l5 (u9.setCell ⟨P, 2, none⟩ (.slice (some ⟨g, 0, none⟩) (its.length + 1) cap)) := b9.kept F6 (by simpa using hbP)
          have A5 : Fr [b, P] w (u5.alloc (.cells #[.int .i64 (m1 : Int), .int .i64 (m2 : Int), .int .i64 (m3 : Int), .int .i64 (m4 : Int), .int .i64 (q4 : Int), .int .i64 v5.kind, .int .i64 v5.num, .float .f64 v5.flt, .string ⟨v5.str.toArray⟩, .slice na5 nl5 nc5, .slice ia5 il5 ic5] 59)) := A5.alloc _
          have fg : Fr [b, P] w u9 := ⟨hgrow.os.trans A5.os, hgrow.tape.trans A5.tape, hgrow.output.trans A5.output, Nat.le_trans A5.size hgrow.size, fun k hk hn => (hgrow.block k (Nat.lt_of_lt_of_le hk A5.size) (hnO k (by have := HP.out; omega))).trans (A5.block k hk hn)⟩
          have r6 : RowIt P 12 5 1 11 59 (its ++ [([(m1 : Int), (m2 : Int), (m3 : Int), (m4 : Int), (q4 : Int)], [v5])]) (.slice (some ⟨g, 0, none⟩) (its.length + 1) cap) (u9.setCell ⟨P, 2, none⟩ (.slice (some ⟨g, 0, none⟩) (its.length + 1) cap)) := hrF.far (b := P) F6.grown (Nat.le_refl _)
          have hkeep := fun (gg : Nat) (hS : Off P (.slice pa pl pc) gg) (hl : gg < wr.heap.size) => (show Off P (.slice (some ⟨g, 0, none⟩) (its.length + 1) cap) gg ∧ (u9.setCell ⟨P, 2, none⟩ (.slice (some ⟨g, 0, none⟩) (its.length + 1) cap)).heap[gg]? = wr.heap[gg]? from row_keep hS hl F5 hbl (.cells #[.int .i64 (m1 : Int), .int .i64 (m2 : Int), .int .i64 (m3 : Int), .int .i64 (m4 : Int), .int .i64 (q4 : Int), .int .i64 v5.kind, .int .i64 v5.num, .float .f64 v5.flt, .string ⟨v5.str.toArray⟩, .slice na5 nl5 nc5, .slice ia5 il5 ic5] 59) hgrow hat F6)
          have hsz9 : wr.heap.size ≤ (u9.setCell ⟨P, 2, none⟩ (.slice (some ⟨g, 0, none⟩) (its.length + 1) cap)).heap.size := Nat.le_trans (Nat.le_trans F5.size (Nat.le_trans (by simp) hgrow.size)) F6.size
          have HS2 : Hid (R = ((itsR heldR (N - (i + 1)) l5).bind fun y => (K0 (n0 : Int) (n1 : Int)) (its ++ [([(m1 : Int), (m2 : Int), (m3 : Int), (m4 : Int), (q4 : Int)], [v5])] ++ y.1) y.2)) := by show R = _; rw [HS.out]; simp only [heldR, H1.out, H2.out, H3.out, H4.out, H5.out, Option.bind_some]
          clear hkeep
          rw [HIL.out] at b6 g6 F6 r6 
          go_roundw
          case rel => exact ⟨i + 1, its ++ [([(m1 : Int), (m2 : Int), (m3 : Int), (m4 : Int), (q4 : Int)], [v5])], _, l5, by omega, by go_num, by simp; exact HIL.out, b6, g6, fg.trans (F6.mono (by simp)), r6, HS2⟩
          case measure => simp [intOf]; omega
      · have t7 : decide ((i : Int) < (N : Int)) = false := by simp; omega
        have hS := hE.out
        rw [show N - i = 0 by omega, itsR] at hS
        simp only [Option.bind_some, List.append_nil] at hS
        have HQ : Hid (R = (listR spotR l).bind fun y => K1 (n0 : Int) (n1 : Int)  its y.1 y.2) := hS
        have hd := hrow.done (by omega)
        clear hS hE hrow hil hi
        generalize its = t0 at *
        have a0 := hd; clear hd
        generalize pa = pa0 at *
        generalize pl = pl0 at *
        generalize pc = pc0 at *
        -- list 1
        go_wp2_with fail
        clear t7 hlt
        refine (HMa.out _ _ hbr).mono ?_; intro e wm hp
        rcases sl_or hp with ⟨hn, rfl, hf⟩ | ⟨N, l1, hn, rfl, G1, F1⟩
        · have HX := Lib.hid (part_none (b := b) (w := w) (show R = none from by rw [HQ.out]; simp only [listR, hn, Option.bind_none]) ((Ar.trans (hf.mono (by simp))).fewer (Nat.le_of_eq HP.out)))
          clear hn hp
          go_wp2_with fail
          exact ⟨rfl, HX.out⟩
        · have HQ1 : Hid (R = ((itsR spotR (N - 0) l1).bind fun y => (K1 (n0 : Int) (n1 : Int) t0) ([] ++ y.1) y.2)) := by show R = _; rw [HQ.out, listR, hn]; rfl
          have hN5 : N ≤ 500 := manyR_bd hn
          have hgm := F1.at hgr hnP
          have Am := Ar.trans (F1.mono (m := [b, P]) (by simp))
          have b0 := a0.kept F1.size (T := fun g => P < g) (fun g hS hl => ⟨hS, F1.block g hl (by have : P < g := hS; simp; omega)⟩);
          clear HQ hn hp hbr hgr Ar F1 a0
          dsimp only
          go_wp2_with fail
          go_loopw [41] (fun iv wr => ∃ (i : Nat) (its : List It) (pi : Value) (l : List UInt8), i ≤ N ∧ iv = .int .i64 (i : Int) ∧ its.length = i ∧ SrL b s l wr ∧ wr.heap[P]? = some (.cells #[.int .i64 (n0 : Int), .int .i64 (n1 : Int), .slice pa0 pl0 pc0, pi, .slice none 0 0, .slice none 0 0, .slice none 0 0] 28 (0, 0)) ∧ Fr [b, P] w wr ∧ RowIt P 12 4 0 4 52 its pi wr ∧ SlIn (Off P pi) wr 12 11 5 1 (.slice pa0 pl0 pc0) t0 ∧ Hid (R = ((itsR spotR (N - i) l).bind fun y => (K1 (n0 : Int) (n1 : Int) t0) (its ++ y.1) y.2))) (fun iv _ => N - (intOf iv).toNat)
          case atStart => exact ⟨0, [], .slice none 0 0, l1, by omega, rfl, rfl, G1, hgm, Am, RowIt.nil _ _ _ _ _ _ _, b0.kept (Nat.le_refl _) (fun g hS _ => ⟨⟨hS, by simp [Value.ownBlock]⟩, rfl⟩), HQ1⟩
          case round =>
            clear G1 hgm Am HQ1 b0
            obtain ⟨i, its, pi, l, hi, rfl, hil, hbr, hgr, Ar, hrow, a0, hE⟩ := hrel
            obtain ⟨pa, pl, pc, rfl⟩ : ∃ a c d, pi = .slice a c d := by
              obtain ⟨xs, h1, _⟩ := hrow
              rcases h1.2 with ⟨h, _⟩ | ⟨g, cap, cur, h, _⟩
              · exact ⟨_, _, _, h⟩
              · exact ⟨_, _, _, h⟩
            by_cases hlt : i < N
            · have t7 : decide ((i : Int) < (N : Int)) = true := by simp; omega
              have hS := hE.out
              rw [show N - i = N - (i + 1) + 1 by omega, its_stepR] at hS
              have HS := Lib.hid hS
              clear hS hE
              obtain ⟨i0, hi0, hz0, hz1, hz2⟩ := Go.info_parts zero_it1
              have HII := Lib.hid hi0; have HZ0 := Lib.hid hz0; have HZ1 := Lib.hid hz1; have HZ2 := Lib.hid hz2
              clear hi0 hz0 hz1 hz2
              have HIL := Lib.hid hil
              have hPr := lt_of_block hgr
              have c3 : wr.cell? ⟨P, 3, none⟩ = some (.slice pa pl pc) := by rw [Lib.cell_of_heap hgr]; rfl
              have HK := Lib.hid (fun (x : World) (h : x.heap[P]? = some (.cells #[.int .i64 (n0 : Int), .int .i64 (n1 : Int), .slice pa0 pl0 pc0, .slice pa pl pc, .slice none 0 0, .slice none 0 0, .slice none 0 0] 28 (0, 0))) => (show x.cell? ⟨P, 3, none⟩ = some (.slice pa pl pc) ∧ x.frozen? ⟨P, 3, none⟩ = false from ⟨by rw [Lib.cell_of_heap h]; rfl, Lib.frozen_of_heap h 3⟩))
              have A0 := Ar.drew
              have F0 : Fr [b] wr.drew wr.drew := Fr.refl _ _
              have G0 := hbr.drew
              have g0 : wr.drew.heap[P]? = _ := hgr
              go_wp2_with fail
              go_region_law (first
                  | ((go_simp; go_at_call 50; (with_reducible refine (HIn.out _ _ G0).mono ?_); intro e u1 hp; rcases si_or hp with ⟨hn, rfl, hf⟩ | ⟨m1, q1, l1, hn, rfl, G1, E1⟩; exact ⟨rfl, part_none (show R = none from by rw [HS.out]; simp only [spotR, hn, Option.bind_none]) ((A0.trans (hf.mono (by simp))).fewer (Nat.le_of_eq HP.out))⟩; have H1 := Lib.hid hn; clear hn hp; have g1 := E1.at g0 hnP; obtain ⟨k1, z1⟩ := HK.out _ g1; have A1 := A0.trans (E1.mono (m := [b, P]) (by simp)); have F1 := F0.trans E1; dsimp only))
                  | ((go_simp; go_at_call 48; (with_reducible refine (HNu.out _ _ G1).mono ?_); intro e u2 hp; rcases sl_or hp with ⟨hn, rfl, hf⟩ | ⟨m2, l2, hn, rfl, G2, E2⟩; exact ⟨rfl, part_none (show R = none from by rw [HS.out]; simp only [spotR, H1.out, hn, Option.bind_some, Option.bind_none]) ((A1.trans (hf.mono (by simp))).fewer (Nat.le_of_eq HP.out))⟩; have H2 := Lib.hid hn; clear hn hp; have g2 := E2.at g1 hnP; obtain ⟨k2, z2⟩ := HK.out _ g2; have A2 := A1.trans (E2.mono (m := [b, P]) (by simp)); have F2 := F1.trans E2; dsimp only))
                  | ((go_simp; go_at_call 48; (with_reducible refine (HNu.out _ _ G2).mono ?_); intro e u3 hp; rcases sl_or hp with ⟨hn, rfl, hf⟩ | ⟨m3, l3, hn, rfl, G3, E3⟩; exact ⟨rfl, part_none (show R = none from by rw [HS.out]; simp only [spotR, H1.out, H2.out, hn, Option.bind_some, Option.bind_none]) ((A2.trans (hf.mono (by simp))).fewer (Nat.le_of_eq HP.out))⟩; have H3 := Lib.hid hn; clear hn hp; have g3 := E3.at g2 hnP; obtain ⟨k3, z3⟩ := HK.out _ g3; have A3 := A2.trans (E3.mono (m := [b, P]) (by simp)); have F3 := F2.trans E3; have aL := (World.cell?_alloc_some u3 _ (.cells #[.int .i64 (m1 : Int), .int .i64 (q1 : Int), .int .i64 (m2 : Int), .int .i64 (m3 : Int)] 52) (by rw [k3]; rfl)).trans k3; obtain ⟨xs, hx, hrA⟩ := row_ready hrow F3 hbl (.cells #[.int .i64 (m1 : Int), .int .i64 (q1 : Int), .int .i64 (m2 : Int), .int .i64 (m3 : Int)] 52); have hvA : ItIn (Off P (.slice pa pl pc)) (u3.alloc (.cells #[.int .i64 (m1 : Int), .int .i64 (q1 : Int), .int .i64 (m2 : Int), .int .i64 (m3 : Int)] 52)) 12 4 0 ([(m1 : Int), (q1 : Int), (m2 : Int), (m3 : Int)], []) #[.int .i64 (m1 : Int), .int .i64 (q1 : Int), .int .i64 (m2 : Int), .int .i64 (m3 : Int)] := ⟨rfl, rfl, [], rfl, fun i hi => absurd hi (Nat.not_lt_zero i), rfl⟩; dsimp only))
                  | ((refine step_append_lies _ (by rfl) _ _ _ (by rfl) (P + 1) 52 i0 _ 4 32 Tryz.underlying23 HII.out HZ0.out HZ1.out HZ2.out rfl (by omega) (.slice pa pl pc) its.length xs (by rfl) hx ⟨u3.heap.size, 0, none⟩ 1 1 [.int .i64 (m1 : Int), .int .i64 (q1 : Int), .int .i64 (m2 : Int), .int .i64 (m3 : Int)] (by rfl) (by rfl) (World.news_of_block (cs := #[.int .i64 (m1 : Int), .int .i64 (q1 : Int), .int .i64 (m2 : Int), .int .i64 (m3 : Int)]) (t := 52) (fr := (0, 0)) (heap_alloc_new u3 _)) (by simp [Value.oneCell']) (by omega) (by unfold maxLen; omega) (by omega) (by have := F3.size; simp at this ⊢; omega) (u3.heap.size + 1) (by simp) ?_; intro g cap u9 hown hgrow hat hlt9; have hrF := hrA.item hx (by rfl) hvA hown hgrow hat (by simp); have hnO : ∀ k, k ≤ P → some k ≠ Value.ownBlock (.slice pa pl pc) := fun k hk e => absurd (own_lt hx e.symm).1 (Nat.not_le_of_lt (Nat.lt_succ_of_le hk)); have g9 := (hgrow.block P (Nat.lt_of_lt_of_le (lt_of_block g3) (by simp)) (hnO P (Nat.le_refl _))).trans ((Lib.alloc_old u3 _ P (lt_of_block g3)).trans g3); obtain ⟨k9, z9⟩ := HK.out _ g9)))
              all_goals
                go_wp2_with fail
                have hbu : b < u3.heap.size := G3.lt
                have F6 := (Fr.refl [P] u9).setCell ⟨P, 3, none⟩ (by simp) (.slice (some ⟨g, 0, none⟩) (its.length + 1) cap)
                have g6 : (u9.setCell ⟨P, 3, none⟩ (.slice (some ⟨g, 0, none⟩) (its.length + 1) cap)).heap[P]? = some (.cells #[.int .i64 (n0 : Int), .int .i64 (n1 : Int), .slice pa0 pl0 pc0, .slice (some ⟨g, 0, none⟩) (its.length + 1) cap, .slice none 0 0, .slice none 0 0, .slice none 0 0] 28 (0, 0)) := heap_setN g9 3 _
                have b9 : SrL b s l3 u9 := ⟨G3.1, ((hgrow.block b (Nat.lt_of_lt_of_le hbu (by simp)) (hnO b (by omega))).trans (Lib.alloc_old u3 _ b hbu)).trans G3.2⟩
                have b6 : SrL b s l3 (u9.setCell ⟨P, 3, none⟩ (.slice (some ⟨g, 0, none⟩) (its.length + 1) cap)) := b9.kept F6 (by simpa using hbP)
                have A5 : Fr [b, P] w (u3.alloc (.cells #[.int .i64 (m1 : Int), .int .i64 (q1 : Int), .int .i64 (m2 : Int), .int .i64 (m3 : Int)] 52)) := A3.alloc _
                have fg : Fr [b, P] w u9 := ⟨hgrow.os.trans A5.os, hgrow.tape.trans A5.tape, hgrow.output.trans A5.output, Nat.le_trans A5.size hgrow.size, fun k hk hn => (hgrow.block k (Nat.lt_of_lt_of_le hk A5.size) (hnO k (by have := HP.out; omega))).trans (A5.block k hk hn)⟩
                have r6 : RowIt P 12 4 0 4 52 (its ++ [([(m1 : Int), (q1 : Int), (m2 : Int), (m3 : Int)], [])]) (.slice (some ⟨g, 0, none⟩) (its.length + 1) cap) (u9.setCell ⟨P, 3, none⟩ (.slice (some ⟨g, 0, none⟩) (its.length + 1) cap)) := hrF.far (b := P) F6.grown (Nat.le_refl _)
                have hkeep := fun (gg : Nat) (hS : Off P (.slice pa pl pc) gg) (hl : gg < wr.heap.size) => (show Off P (.slice (some ⟨g, 0, none⟩) (its.length + 1) cap) gg ∧ (u9.setCell ⟨P, 3, none⟩ (.slice (some ⟨g, 0, none⟩) (its.length + 1) cap)).heap[gg]? = wr.heap[gg]? from row_keep hS hl F3 hbl (.cells #[.int .i64 (m1 : Int), .int .i64 (q1 : Int), .int .i64 (m2 : Int), .int .i64 (m3 : Int)] 52) hgrow hat F6)
                have hsz9 : wr.heap.size ≤ (u9.setCell ⟨P, 3, none⟩ (.slice (some ⟨g, 0, none⟩) (its.length + 1) cap)).heap.size := Nat.le_trans (Nat.le_trans F3.size (Nat.le_trans (by simp) hgrow.size)) F6.size
                replace a0 := a0.kept hsz9 hkeep
                have HS2 : Hid (R = ((itsR spotR (N - (i + 1)) l3).bind fun y => (K1 (n0 : Int) (n1 : Int) t0) (its ++ [([(m1 : Int), (q1 : Int), (m2 : Int), (m3 : Int)], [])] ++ y.1) y.2)) := by show R = _; rw [HS.out]; simp only [spotR, H1.out, H2.out, H3.out, Option.bind_some]
                clear hkeep
                rw [HIL.out] at b6 g6 F6 r6 a0
                go_roundw
                case rel => exact ⟨i + 1, its ++ [([(m1 : Int), (q1 : Int), (m2 : Int), (m3 : Int)], [])], _, l3, by omega, by go_num, by simp; exact HIL.out, b6, g6, fg.trans (F6.mono (by simp)), r6, a0, HS2⟩
                case measure => simp [intOf]; omega
            · have t7 : decide ((i : Int) < (N : Int)) = false := by simp; omega
              have hS := hE.out
              rw [show N - i = 0 by omega, itsR] at hS
              simp only [Option.bind_some, List.append_nil] at hS
              have HQ : Hid (R = (listR putR l).bind fun y => K2 (n0 : Int) (n1 : Int) t0 its y.1 y.2) := hS
              have hd := hrow.done (by omega)
              replace a0 := a0.kept (Nat.le_refl _) (T := fun g => P < g) (fun g hS _ => ⟨hS.1, rfl⟩)
              clear hS hE hrow hil hi
              generalize its = t1 at *
              have a1 := hd; clear hd
              generalize pa = pa1 at *
              generalize pl = pl1 at *
              generalize pc = pc1 at *
              -- list 2
              go_wp2_with fail
              clear t7 hlt
              refine (HMa.out _ _ hbr).mono ?_; intro e wm hp
              rcases sl_or hp with ⟨hn, rfl, hf⟩ | ⟨N, l1, hn, rfl, G1, F1⟩
              · have HX := Lib.hid (part_none (b := b) (w := w) (show R = none from by rw [HQ.out]; simp only [listR, hn, Option.bind_none]) ((Ar.trans (hf.mono (by simp))).fewer (Nat.le_of_eq HP.out)))
                clear hn hp
                go_wp2_with fail
                exact ⟨rfl, HX.out⟩
              · have HQ1 : Hid (R = ((itsR putR (N - 0) l1).bind fun y => (K2 (n0 : Int) (n1 : Int) t0 t1) ([] ++ y.1) y.2)) := by show R = _; rw [HQ.out, listR, hn]; rfl
                have hN5 : N ≤ 500 := manyR_bd hn
                have hgm := F1.at hgr hnP
                have Am := Ar.trans (F1.mono (m := [b, P]) (by simp))
                have b0 := a0.kept F1.size (T := fun g => P < g) (fun g hS hl => ⟨hS, F1.block g hl (by have : P < g := hS; simp; omega)⟩); have b1 := a1.kept F1.size (T := fun g => P < g) (fun g hS hl => ⟨hS, F1.block g hl (by have : P < g := hS; simp; omega)⟩);
                clear HQ hn hp hbr hgr Ar F1 a0 a1
                dsimp only
                go_wp2_with fail
                go_loopw [58] (fun iv wr => ∃ (i : Nat) (its : List It) (pi : Value) (l : List UInt8), i ≤ N ∧ iv = .int .i64 (i : Int) ∧ its.length = i ∧ SrL b s l wr ∧ wr.heap[P]? = some (.cells #[.int .i64 (n0 : Int), .int .i64 (n1 : Int), .slice pa0 pl0 pc0, .slice pa1 pl1 pc1, pi, .slice none 0 0, .slice none 0 0] 28 (0, 0)) ∧ Fr [b, P] w wr ∧ RowIt P 12 3 1 9 61 its pi wr ∧ SlIn (Off P pi) wr 12 11 5 1 (.slice pa0 pl0 pc0) t0 ∧ SlIn (Off P pi) wr 12 4 4 0 (.slice pa1 pl1 pc1) t1 ∧ Hid (R = ((itsR putR (N - i) l).bind fun y => (K2 (n0 : Int) (n1 : Int) t0 t1) (its ++ y.1) y.2))) (fun iv _ => N - (intOf iv).toNat)
                case atStart => exact ⟨0, [], .slice none 0 0, l1, by omega, rfl, rfl, G1, hgm, Am, RowIt.nil _ _ _ _ _ _ _, b0.kept (Nat.le_refl _) (fun g hS _ => ⟨⟨hS, by simp [Value.ownBlock]⟩, rfl⟩), b1.kept (Nat.le_refl _) (fun g hS _ => ⟨⟨hS, by simp [Value.ownBlock]⟩, rfl⟩), HQ1⟩
                case round =>
                  clear G1 hgm Am HQ1 b0 b1
                  obtain ⟨i, its, pi, l, hi, rfl, hil, hbr, hgr, Ar, hrow, a0, a1, hE⟩ := hrel
                  obtain ⟨pa, pl, pc, rfl⟩ : ∃ a c d, pi = .slice a c d := by
                    obtain ⟨xs, h1, _⟩ := hrow
                    rcases h1.2 with ⟨h, _⟩ | ⟨g, cap, cur, h, _⟩
                    · exact ⟨_, _, _, h⟩
                    · exact ⟨_, _, _, h⟩
                  by_cases hlt : i < N
                  · have t7 : decide ((i : Int) < (N : Int)) = true := by simp; omega
                    have hS := hE.out
                    rw [show N - i = N - (i + 1) + 1 by omega, its_stepR] at hS
                    have HS := Lib.hid hS
                    clear hS hE
                    obtain ⟨i0, hi0, hz0, hz1, hz2⟩ := Go.info_parts zero_it2
                    have HII := Lib.hid hi0; have HZ0 := Lib.hid hz0; have HZ1 := Lib.hid hz1; have HZ2 := Lib.hid hz2
                    clear hi0 hz0 hz1 hz2
                    have HIL := Lib.hid hil
                    have hPr := lt_of_block hgr
                    have c4 : wr.cell? ⟨P, 4, none⟩ = some (.slice pa pl pc) := by rw [Lib.cell_of_heap hgr]; rfl
                    have HK := Lib.hid (fun (x : World) (h : x.heap[P]? = some (.cells #[.int .i64 (n0 : Int), .int .i64 (n1 : Int), .slice pa0 pl0 pc0, .slice pa1 pl1 pc1, .slice pa pl pc, .slice none 0 0, .slice none 0 0] 28 (0, 0))) => (show x.cell? ⟨P, 4, none⟩ = some (.slice pa pl pc) ∧ x.frozen? ⟨P, 4, none⟩ = false from ⟨by rw [Lib.cell_of_heap h]; rfl, Lib.frozen_of_heap h 4⟩))
                    have A0 := Ar.drew
                    have F0 : Fr [b] wr.drew wr.drew := Fr.refl _ _
                    have G0 := hbr.drew
                    have g0 : wr.drew.heap[P]? = _ := hgr
                    go_wp2_with fail
                    go_region_law (first
                        | ((go_simp; go_at_call 50; (with_reducible refine (HIn.out _ _ G0).mono ?_); intro e u1 hp; rcases si_or hp with ⟨hn, rfl, hf⟩ | ⟨m1, q1, l1, hn, rfl, G1, E1⟩; exact ⟨rfl, part_none (show R = none from by rw [HS.out]; simp only [putR, hn, Option.bind_none]) ((A0.trans (hf.mono (by simp))).fewer (Nat.le_of_eq HP.out))⟩; have H1 := Lib.hid hn; clear hn hp; have g1 := E1.at g0 hnP; obtain ⟨k1, z1⟩ := HK.out _ g1; have A1 := A0.trans (E1.mono (m := [b, P]) (by simp)); have F1 := F0.trans E1; dsimp only))
                        | ((go_simp; go_at_call 48; (with_reducible refine (HNu.out _ _ G1).mono ?_); intro e u2 hp; rcases sl_or hp with ⟨hn, rfl, hf⟩ | ⟨m2, l2, hn, rfl, G2, E2⟩; exact ⟨rfl, part_none (show R = none from by rw [HS.out]; simp only [putR, H1.out, hn, Option.bind_some, Option.bind_none]) ((A1.trans (hf.mono (by simp))).fewer (Nat.le_of_eq HP.out))⟩; have H2 := Lib.hid hn; clear hn hp; have g2 := E2.at g1 hnP; obtain ⟨k2, z2⟩ := HK.out _ g2; have A2 := A1.trans (E2.mono (m := [b, P]) (by simp)); have F2 := F1.trans E2; dsimp only))
                        | ((go_simp; go_at_call 52; (with_reducible refine (HVa.out _ _ G2).mono ?_); intro e u3 hp; rcases sv_or hp with ⟨hn, rfl, hf⟩ | ⟨v3, l3, na3, nl3, nc3, ia3, il3, ic3, hn, rfl, V3, G3, E3⟩; exact ⟨rfl, part_none (show R = none from by rw [HS.out]; simp only [putR, H1.out, H2.out, hn, Option.bind_some, Option.bind_none]) ((A2.trans (hf.mono (by simp))).fewer (Nat.le_of_eq HP.out))⟩; have H3 := Lib.hid hn; clear hn hp; have g3 := E3.at g2 hnP; obtain ⟨k3, z3⟩ := HK.out _ g3; have A3 := A2.trans (E3.mono (m := [b, P]) (by simp)); have F3 := F2.trans E3; have aL := (World.cell?_alloc_some u3 _ (.cells #[.int .i64 (m1 : Int), .int .i64 (q1 : Int), .int .i64 (m2 : Int), .int .i64 v3.kind, .int .i64 v3.num, .float .f64 v3.flt, .string ⟨v3.str.toArray⟩, .slice na3 nl3 nc3, .slice ia3 il3 ic3] 61) (by rw [k3]; rfl)).trans k3; obtain ⟨xs, hx, hrA⟩ := row_ready hrow F3 hbl (.cells #[.int .i64 (m1 : Int), .int .i64 (q1 : Int), .int .i64 (m2 : Int), .int .i64 v3.kind, .int .i64 v3.num, .float .f64 v3.flt, .string ⟨v3.str.toArray⟩, .slice na3 nl3 nc3, .slice ia3 il3 ic3] 61); have W3 := val_ready hrow V3 (by have := F2.size; simp at this; omega) hPr (.cells #[.int .i64 (m1 : Int), .int .i64 (q1 : Int), .int .i64 (m2 : Int), .int .i64 v3.kind, .int .i64 v3.num, .float .f64 v3.flt, .string ⟨v3.str.toArray⟩, .slice na3 nl3 nc3, .slice ia3 il3 ic3] 61); have hvA : ItIn (Off P (.slice pa pl pc)) (u3.alloc (.cells #[.int .i64 (m1 : Int), .int .i64 (q1 : Int), .int .i64 (m2 : Int), .int .i64 v3.kind, .int .i64 v3.num, .float .f64 v3.flt, .string ⟨v3.str.toArray⟩, .slice na3 nl3 nc3, .slice ia3 il3 ic3] 61)) 12 3 1 ([(m1 : Int), (q1 : Int), (m2 : Int)], [v3]) #[.int .i64 (m1 : Int), .int .i64 (q1 : Int), .int .i64 (m2 : Int), .int .i64 v3.kind, .int .i64 v3.num, .float .f64 v3.flt, .string ⟨v3.str.toArray⟩, .slice na3 nl3 nc3, .slice ia3 il3 ic3] := ⟨rfl, rfl, [#[.int .i64 v3.kind, .int .i64 v3.num, .float .f64 v3.flt, .string ⟨v3.str.toArray⟩, .slice na3 nl3 nc3, .slice ia3 il3 ic3]], rfl, fun i hi => by match i, hi with | 0, _ => exact W3, rfl⟩; dsimp only))
                        | ((refine step_append_lies _ (by rfl) _ _ _ (by rfl) (P + 1) 61 i0 _ 9 112 Tryz.underlying24 HII.out HZ0.out HZ1.out HZ2.out rfl (by omega) (.slice pa pl pc) its.length xs (by rfl) hx ⟨u3.heap.size, 0, none⟩ 1 1 [.int .i64 (m1 : Int), .int .i64 (q1 : Int), .int .i64 (m2 : Int), .int .i64 v3.kind, .int .i64 v3.num, .float .f64 v3.flt, .string ⟨v3.str.toArray⟩, .slice na3 nl3 nc3, .slice ia3 il3 ic3] (by rfl) (by rfl) (World.news_of_block (cs := #[.int .i64 (m1 : Int), .int .i64 (q1 : Int), .int .i64 (m2 : Int), .int .i64 v3.kind, .int .i64 v3.num, .float .f64 v3.flt, .string ⟨v3.str.toArray⟩, .slice na3 nl3 nc3, .slice ia3 il3 ic3]) (t := 61) (fr := (0, 0)) (heap_alloc_new u3 _)) (by simp [Value.oneCell']) (by omega) (by unfold maxLen; omega) (by omega) (by have := F3.size; simp at this ⊢; omega) (u3.heap.size + 1) (by simp) ?_; intro g cap u9 hown hgrow hat hlt9; have hrF := hrA.item hx (by rfl) hvA hown hgrow hat (by simp); have hnO : ∀ k, k ≤ P → some k ≠ Value.ownBlock (.slice pa pl pc) := fun k hk e => absurd (own_lt hx e.symm).1 (Nat.not_le_of_lt (Nat.lt_succ_of_le hk)); have g9 := (hgrow.block P (Nat.lt_of_lt_of_le (lt_of_block g3) (by simp)) (hnO P (Nat.le_refl _))).trans ((Lib.alloc_old u3 _ P (lt_of_block g3)).trans g3); obtain ⟨k9, z9⟩ := HK.out _ g9)))
                    all_goals
                      go_wp2_with fail
                      have hbu : b < u3.heap.size := G3.lt
                      have F6 := (Fr.refl [P] u9).setCell ⟨P, 4, none⟩ (by simp) (.slice (some ⟨g, 0, none⟩) (its.length + 1) cap)
                      have g6 : (u9.setCell ⟨P, 4, none⟩ (.slice (some ⟨g, 0, none⟩) (its.length + 1) cap)).heap[P]? = some (.cells #[.int .i64 (n0 : Int), .int .i64 (n1 : Int), .slice pa0 pl0 pc0, .slice pa1 pl1 pc1, .slice (some ⟨g, 0, none⟩) (its.length + 1) cap, .slice none 0 0, .slice none 0 0] 28 (0, 0)) := heap_setN g9 4 _
                      have b9 : SrL b s l3 u9 := ⟨G3.1, ((hgrow.block b (Nat.lt_of_lt_of_le hbu (by simp)) (hnO b (by omega))).trans (Lib.alloc_old u3 _ b hbu)).trans G3.2⟩
                      have b6 : SrL b s l3 (u9.setCell ⟨P, 4, none⟩ (.slice (some ⟨g, 0, none⟩) (its.length + 1) cap)) := b9.kept F6 (by simpa using hbP)
                      have A5 : Fr [b, P] w (u3.alloc (.cells #[.int .i64 (m1 : Int), .int .i64 (q1 : Int), .int .i64 (m2 : Int), .int .i64 v3.kind, .int .i64 v3.num, .float .f64 v3.flt, .string ⟨v3.str.toArray⟩, .slice na3 nl3 nc3, .slice ia3 il3 ic3] 61)) := A3.alloc _
                      have fg : Fr [b, P] w u9 := ⟨hgrow.os.trans A5.os, hgrow.tape.trans A5.tape, hgrow.output.trans A5.output, Nat.le_trans A5.size hgrow.size, fun k hk hn => (hgrow.block k (Nat.lt_of_lt_of_le hk A5.size) (hnO k (by have := HP.out; omega))).trans (A5.block k hk hn)⟩
                      have r6 : RowIt P 12 3 1 9 61 (its ++ [([(m1 : Int), (q1 : Int), (m2 : Int)], [v3])]) (.slice (some ⟨g, 0, none⟩) (its.length + 1) cap) (u9.setCell ⟨P, 4, none⟩ (.slice (some ⟨g, 0, none⟩) (its.length + 1) cap)) := hrF.far (b := P) F6.grown (Nat.le_refl _)
                      have hkeep := fun (gg : Nat) (hS : Off P (.slice pa pl pc) gg) (hl : gg < wr.heap.size) => (show Off P (.slice (some ⟨g, 0, none⟩) (its.length + 1) cap) gg ∧ (u9.setCell ⟨P, 4, none⟩ (.slice (some ⟨g, 0, none⟩) (its.length + 1) cap)).heap[gg]? = wr.heap[gg]? from row_keep hS hl F3 hbl (.cells #[.int .i64 (m1 : Int), .int .i64 (q1 : Int), .int .i64 (m2 : Int), .int .i64 v3.kind, .int .i64 v3.num, .float .f64 v3.flt, .string ⟨v3.str.toArray⟩, .slice na3 nl3 nc3, .slice ia3 il3 ic3] 61) hgrow hat F6)
                      have hsz9 : wr.heap.size ≤ (u9.setCell ⟨P, 4, none⟩ (.slice (some ⟨g, 0, none⟩) (its.length + 1) cap)).heap.size := Nat.le_trans (Nat.le_trans F3.size (Nat.le_trans (by simp) hgrow.size)) F6.size
                      replace a0 := a0.kept hsz9 hkeep
                      replace a1 := a1.kept hsz9 hkeep
                      have HS2 : Hid (R = ((itsR putR (N - (i + 1)) l3).bind fun y => (K2 (n0 : Int) (n1 : Int) t0 t1) (its ++ [([(m1 : Int), (q1 : Int), (m2 : Int)], [v3])] ++ y.1) y.2)) := by show R = _; rw [HS.out]; simp only [putR, H1.out, H2.out, H3.out, Option.bind_some]
                      clear hkeep
                      rw [HIL.out] at b6 g6 F6 r6 a0 a1
                      go_roundw
                      case rel => exact ⟨i + 1, its ++ [([(m1 : Int), (q1 : Int), (m2 : Int)], [v3])], _, l3, by omega, by go_num, by simp; exact HIL.out, b6, g6, fg.trans (F6.mono (by simp)), r6, a0, a1, HS2⟩
                      case measure => simp [intOf]; omega
                  · have t7 : decide ((i : Int) < (N : Int)) = false := by simp; omega
                    have hS := hE.out
                    rw [show N - i = 0 by omega, itsR] at hS
                    simp only [Option.bind_some, List.append_nil] at hS
                    have HQ : Hid (R = (listR letterR l).bind fun y => K3 (n0 : Int) (n1 : Int) t0 t1 its y.1 y.2) := hS
                    have hd := hrow.done (by omega)
                    replace a0 := a0.kept (Nat.le_refl _) (T := fun g => P < g) (fun g hS _ => ⟨hS.1, rfl⟩)
                    replace a1 := a1.kept (Nat.le_refl _) (T := fun g => P < g) (fun g hS _ => ⟨hS.1, rfl⟩)
                    clear hS hE hrow hil hi
                    generalize its = t2 at *
                    have a2 := hd; clear hd
                    generalize pa = pa2 at *
                    generalize pl = pl2 at *
                    generalize pc = pc2 at *
                    -- list 3
                    go_wp2_with fail
                    clear t7 hlt
                    refine (HMa.out _ _ hbr).mono ?_; intro e wm hp
                    rcases sl_or hp with ⟨hn, rfl, hf⟩ | ⟨N, l1, hn, rfl, G1, F1⟩
                    · have HX := Lib.hid (part_none (b := b) (w := w) (show R = none from by rw [HQ.out]; simp only [listR, hn, Option.bind_none]) ((Ar.trans (hf.mono (by simp))).fewer (Nat.le_of_eq HP.out)))
                      clear hn hp
                      go_wp2_with fail
                      exact ⟨rfl, HX.out⟩
                    · have HQ1 : Hid (R = ((itsR letterR (N - 0) l1).bind fun y => (K3 (n0 : Int) (n1 : Int) t0 t1 t2) ([] ++ y.1) y.2)) := by show R = _; rw [HQ.out, listR, hn]; rfl
                      have hN5 : N ≤ 500 := manyR_bd hn
                      have hgm := F1.at hgr hnP
                      have Am := Ar.trans (F1.mono (m := [b, P]) (by simp))
                      have b0 := a0.kept F1.size (T := fun g => P < g) (fun g hS hl => ⟨hS, F1.block g hl (by have : P < g := hS; simp; omega)⟩); have b1 := a1.kept F1.size (T := fun g => P < g) (fun g hS hl => ⟨hS, F1.block g hl (by have : P < g := hS; simp; omega)⟩); have b2 := a2.kept F1.size (T := fun g => P < g) (fun g hS hl => ⟨hS, F1.block g hl (by have : P < g := hS; simp; omega)⟩);
                      clear HQ hn hp hbr hgr Ar F1 a0 a1 a2
                      dsimp only
                      go_wp2_with fail
                      go_loopw [75] (fun iv wr => ∃ (i : Nat) (its : List It) (pi : Value) (l : List UInt8), i ≤ N ∧ iv = .int .i64 (i : Int) ∧ its.length = i ∧ SrL b s l wr ∧ wr.heap[P]? = some (.cells #[.int .i64 (n0 : Int), .int .i64 (n1 : Int), .slice pa0 pl0 pc0, .slice pa1 pl1 pc1, .slice pa2 pl2 pc2, pi, .slice none 0 0] 28 (0, 0)) ∧ Fr [b, P] w wr ∧ RowIt P 12 1 2 13 63 its pi wr ∧ SlIn (Off P pi) wr 12 11 5 1 (.slice pa0 pl0 pc0) t0 ∧ SlIn (Off P pi) wr 12 4 4 0 (.slice pa1 pl1 pc1) t1 ∧ SlIn (Off P pi) wr 12 9 3 1 (.slice pa2 pl2 pc2) t2 ∧ Hid (R = ((itsR letterR (N - i) l).bind fun y => (K3 (n0 : Int) (n1 : Int) t0 t1 t2) (its ++ y.1) y.2))) (fun iv _ => N - (intOf iv).toNat)
                      case atStart => exact ⟨0, [], .slice none 0 0, l1, by omega, rfl, rfl, G1, hgm, Am, RowIt.nil _ _ _ _ _ _ _, b0.kept (Nat.le_refl _) (fun g hS _ => ⟨⟨hS, by simp [Value.ownBlock]⟩, rfl⟩), b1.kept (Nat.le_refl _) (fun g hS _ => ⟨⟨hS, by simp [Value.ownBlock]⟩, rfl⟩), b2.kept (Nat.le_refl _) (fun g hS _ => ⟨⟨hS, by simp [Value.ownBlock]⟩, rfl⟩), HQ1⟩
                      case round =>
                        clear G1 hgm Am HQ1 b0 b1 b2
                        obtain ⟨i, its, pi, l, hi, rfl, hil, hbr, hgr, Ar, hrow, a0, a1, a2, hE⟩ := hrel
                        obtain ⟨pa, pl, pc, rfl⟩ : ∃ a c d, pi = .slice a c d := by
                          obtain ⟨xs, h1, _⟩ := hrow
                          rcases h1.2 with ⟨h, _⟩ | ⟨g, cap, cur, h, _⟩
                          · exact ⟨_, _, _, h⟩
                          · exact ⟨_, _, _, h⟩
                        by_cases hlt : i < N
                        · have t7 : decide ((i : Int) < (N : Int)) = true := by simp; omega
                          have hS := hE.out
                          rw [show N - i = N - (i + 1) + 1 by omega, its_stepR] at hS
                          have HS := Lib.hid hS
                          clear hS hE
                          obtain ⟨i0, hi0, hz0, hz1, hz2⟩ := Go.info_parts zero_it3
                          have HII := Lib.hid hi0; have HZ0 := Lib.hid hz0; have HZ1 := Lib.hid hz1; have HZ2 := Lib.hid hz2
                          clear hi0 hz0 hz1 hz2
                          have HIL := Lib.hid hil
                          have hPr := lt_of_block hgr
                          have c5 : wr.cell? ⟨P, 5, none⟩ = some (.slice pa pl pc) := by rw [Lib.cell_of_heap hgr]; rfl
                          have HK := Lib.hid (fun (x : World) (h : x.heap[P]? = some (.cells #[.int .i64 (n0 : Int), .int .i64 (n1 : Int), .slice pa0 pl0 pc0, .slice pa1 pl1 pc1, .slice pa2 pl2 pc2, .slice pa pl pc, .slice none 0 0] 28 (0, 0))) => (show x.cell? ⟨P, 5, none⟩ = some (.slice pa pl pc) ∧ x.frozen? ⟨P, 5, none⟩ = false from ⟨by rw [Lib.cell_of_heap h]; rfl, Lib.frozen_of_heap h 5⟩))
                          have A0 := Ar.drew
                          have F0 : Fr [b] wr.drew wr.drew := Fr.refl _ _
                          have G0 := hbr.drew
                          have g0 : wr.drew.heap[P]? = _ := hgr
                          go_wp2_with fail
                          go_region_law (first
                              | ((go_simp; go_at_call 48; (with_reducible refine (HNu.out _ _ G0).mono ?_); intro e u1 hp; rcases sl_or hp with ⟨hn, rfl, hf⟩ | ⟨m1, l1, hn, rfl, G1, E1⟩; exact ⟨rfl, part_none (show R = none from by rw [HS.out]; simp only [letterR, hn, Option.bind_none]) ((A0.trans (hf.mono (by simp))).fewer (Nat.le_of_eq HP.out))⟩; have H1 := Lib.hid hn; clear hn hp; have g1 := E1.at g0 hnP; obtain ⟨k1, z1⟩ := HK.out _ g1; have A1 := A0.trans (E1.mono (m := [b, P]) (by simp)); have F1 := F0.trans E1; dsimp only))
                              | ((go_simp; go_at_call 52; (with_reducible refine (HVa.out _ _ G1).mono ?_); intro e u2 hp; rcases sv_or hp with ⟨hn, rfl, hf⟩ | ⟨v2, l2, na2, nl2, nc2, ia2, il2, ic2, hn, rfl, V2, G2, E2⟩; exact ⟨rfl, part_none (show R = none from by rw [HS.out]; simp only [letterR, H1.out, hn, Option.bind_some, Option.bind_none]) ((A1.trans (hf.mono (by simp))).fewer (Nat.le_of_eq HP.out))⟩; have H2 := Lib.hid hn; clear hn hp; have g2 := E2.at g1 hnP; obtain ⟨k2, z2⟩ := HK.out _ g2; have A2 := A1.trans (E2.mono (m := [b, P]) (by simp)); have F2 := F1.trans E2; dsimp only))
                              | ((go_simp; go_at_call 52; (with_reducible refine (HVa.out _ _ G2).mono ?_); intro e u3 hp; rcases sv_or hp with ⟨hn, rfl, hf⟩ | ⟨v3, l3, na3, nl3, nc3, ia3, il3, ic3, hn, rfl, V3, G3, E3⟩; exact ⟨rfl, part_none (show R = none from by rw [HS.out]; simp only [letterR, H1.out, H2.out, hn, Option.bind_some, Option.bind_none]) ((A2.trans (hf.mono (by simp))).fewer (Nat.le_of_eq HP.out))⟩; have H3 := Lib.hid hn; clear hn hp; have g3 := E3.at g2 hnP; obtain ⟨k3, z3⟩ := HK.out _ g3; have A3 := A2.trans (E3.mono (m := [b, P]) (by simp)); have F3 := F2.trans E3; have V2 := V2.fr E3 (fun g hg hn => by simp at hg; have := hbl2; have := F1.size; simp at this hn; omega); have aL := (World.cell?_alloc_some u3 _ (.cells #[.int .i64 (m1 : Int), .int .i64 v2.kind, .int .i64 v2.num, .float .f64 v2.flt, .string ⟨v2.str.toArray⟩, .slice na2 nl2 nc2, .slice ia2 il2 ic2, .int .i64 v3.kind, .int .i64 v3.num, .float .f64 v3.flt, .string ⟨v3.str.toArray⟩, .slice na3 nl3 nc3, .slice ia3 il3 ic3] 63) (by rw [k3]; rfl)).trans k3; obtain ⟨xs, hx, hrA⟩ := row_ready hrow F3 hbl (.cells #[.int .i64 (m1 : Int), .int .i64 v2.kind, .int .i64 v2.num, .float .f64 v2.flt, .string ⟨v2.str.toArray⟩, .slice na2 nl2 nc2, .slice ia2 il2 ic2, .int .i64 v3.kind, .int .i64 v3.num, .float .f64 v3.flt, .string ⟨v3.str.toArray⟩, .slice na3 nl3 nc3, .slice ia3 il3 ic3] 63); have W2 := val_ready hrow V2 (by have := F1.size; simp at this; omega) hPr (.cells #[.int .i64 (m1 : Int), .int .i64 v2.kind, .int .i64 v2.num, .float .f64 v2.flt, .string ⟨v2.str.toArray⟩, .slice na2 nl2 nc2, .slice ia2 il2 ic2, .int .i64 v3.kind, .int .i64 v3.num, .float .f64 v3.flt, .string ⟨v3.str.toArray⟩, .slice na3 nl3 nc3, .slice ia3 il3 ic3] 63); have W3 := val_ready hrow V3 (by have := F2.size; simp at this; omega) hPr (.cells #[.int .i64 (m1 : Int), .int .i64 v2.kind, .int .i64 v2.num, .float .f64 v2.flt, .string ⟨v2.str.toArray⟩, .slice na2 nl2 nc2, .slice ia2 il2 ic2, .int .i64 v3.kind, .int .i64 v3.num, .float .f64 v3.flt, .string ⟨v3.str.toArray⟩, .slice na3 nl3 nc3, .slice ia3 il3 ic3] 63); have hvA : ItIn (Off P (.slice pa pl pc)) (u3.alloc (.cells #[.int .i64 (m1 : Int), .int .i64 v2.kind, .int .i64 v2.num, .float .f64 v2.flt, .string ⟨v2.str.toArray⟩, .slice na2 nl2 nc2, .slice ia2 il2 ic2, .int .i64 v3.kind, .int .i64 v3.num, .float .f64 v3.flt, .string ⟨v3.str.toArray⟩, .slice na3 nl3 nc3, .slice ia3 il3 ic3] 63)) 12 1 2 ([(m1 : Int)], [v2, v3]) #[.int .i64 (m1 : Int), .int .i64 v2.kind, .int .i64 v2.num, .float .f64 v2.flt, .string ⟨v2.str.toArray⟩, .slice na2 nl2 nc2, .slice ia2 il2 ic2, .int .i64 v3.kind, .int .i64 v3.num, .float .f64 v3.flt, .string ⟨v3.str.toArray⟩, .slice na3 nl3 nc3, .slice ia3 il3 ic3] := ⟨rfl, rfl, [#[.int .i64 v2.kind, .int .i64 v2.num, .float .f64 v2.flt, .string ⟨v2.str.toArray⟩, .slice na2 nl2 nc2, .slice ia2 il2 ic2], #[.int .i64 v3.kind, .int .i64 v3.num, .float .f64 v3.flt, .string ⟨v3.str.toArray⟩, .slice na3 nl3 nc3, .slice ia3 il3 ic3]], rfl, fun i hi => by match i, hi with | 0, _ => exact W2 | 1, _ => exact W3, rfl⟩; dsimp only))
                              | ((refine step_append_lies _ (by rfl) _ _ _ (by rfl) (P + 1) 63 i0 _ 13 184 Tryz.underlying25 HII.out HZ0.out HZ1.out HZ2.out rfl (by omega) (.slice pa pl pc) its.length xs (by rfl) hx ⟨u3.heap.size, 0, none⟩ 1 1 [.int .i64 (m1 : Int), .int .i64 v2.kind, .int .i64 v2.num, .float .f64 v2.flt, .string ⟨v2.str.toArray⟩, .slice na2 nl2 nc2, .slice ia2 il2 ic2, .int .i64 v3.kind, .int .i64 v3.num, .float .f64 v3.flt, .string ⟨v3.str.toArray⟩, .slice na3 nl3 nc3, .slice ia3 il3 ic3] (by rfl) (by rfl) (World.news_of_block (cs := #[.int .i64 (m1 : Int), .int .i64 v2.kind, .int .i64 v2.num, .float .f64 v2.flt, .string ⟨v2.str.toArray⟩, .slice na2 nl2 nc2, .slice ia2 il2 ic2, .int .i64 v3.kind, .int .i64 v3.num, .float .f64 v3.flt, .string ⟨v3.str.toArray⟩, .slice na3 nl3 nc3, .slice ia3 il3 ic3]) (t := 63) (fr := (0, 0)) (heap_alloc_new u3 _)) (by simp [Value.oneCell']) (by omega) (by unfold maxLen; omega) (by omega) (by have := F3.size; simp at this ⊢; omega) (u3.heap.size + 1) (by simp) ?_; intro g cap u9 hown hgrow hat hlt9; have hrF := hrA.item hx (by rfl) hvA hown hgrow hat (by simp); have hnO : ∀ k, k ≤ P → some k ≠ Value.ownBlock (.slice pa pl pc) := fun k hk e => absurd (own_lt hx e.symm).1 (Nat.not_le_of_lt (Nat.lt_succ_of_le hk)); have g9 := (hgrow.block P (Nat.lt_of_lt_of_le (lt_of_block g3) (by simp)) (hnO P (Nat.le_refl _))).trans ((Lib.alloc_old u3 _ P (lt_of_block g3)).trans g3); obtain ⟨k9, z9⟩ := HK.out _ g9)))
                          all_goals
                            go_wp2_with fail
                            have hbu : b < u3.heap.size := G3.lt
                            have F6 := (Fr.refl [P] u9).setCell ⟨P, 5, none⟩ (by simp) (.slice (some ⟨g, 0, none⟩) (its.length + 1) cap)
                            have g6 : (u9.setCell ⟨P, 5, none⟩ (.slice (some ⟨g, 0, none⟩) (its.length + 1) cap)).heap[P]? = some (.cells #[.int .i64 (n0 : Int), .int .i64 (n1 : Int), .slice pa0 pl0 pc0, .slice pa1 pl1 pc1, .slice pa2 pl2 pc2, .slice (some ⟨g, 0, none⟩) (its.length + 1) cap, .slice none 0 0] 28 (0, 0)) := heap_setN g9 5 _
                            have b9 : SrL b s l3 u9 := ⟨G3.1, ((hgrow.block b (Nat.lt_of_lt_of_le hbu (by simp)) (hnO b (by omega))).trans (Lib.alloc_old u3 _ b hbu)).trans G3.2⟩
                            have b6 : SrL b s l3 (u9.setCell ⟨P, 5, none⟩ (.slice (some ⟨g, 0, none⟩) (its.length + 1) cap)) := b9.kept F6 (by simpa using hbP)
                            have A5 : Fr [b, P] w (u3.alloc (.cells #[.int .i64 (m1 : Int), .int .i64 v2.kind, .int .i64 v2.num, .float .f64 v2.flt, .string ⟨v2.str.toArray⟩, .slice na2 nl2 nc2, .slice ia2 il2 ic2, .int .i64 v3.kind, .int .i64 v3.num, .float .f64 v3.flt, .string ⟨v3.str.toArray⟩, .slice na3 nl3 nc3, .slice ia3 il3 ic3] 63)) := A3.alloc _
                            have fg : Fr [b, P] w u9 := ⟨hgrow.os.trans A5.os, hgrow.tape.trans A5.tape, hgrow.output.trans A5.output, Nat.le_trans A5.size hgrow.size, fun k hk hn => (hgrow.block k (Nat.lt_of_lt_of_le hk A5.size) (hnO k (by have := HP.out; omega))).trans (A5.block k hk hn)⟩
                            have r6 : RowIt P 12 1 2 13 63 (its ++ [([(m1 : Int)], [v2, v3])]) (.slice (some ⟨g, 0, none⟩) (its.length + 1) cap) (u9.setCell ⟨P, 5, none⟩ (.slice (some ⟨g, 0, none⟩) (its.length + 1) cap)) := hrF.far (b := P) F6.grown (Nat.le_refl _)
                            have hkeep := fun (gg : Nat) (hS : Off P (.slice pa pl pc) gg) (hl : gg < wr.heap.size) => (show Off P (.slice (some ⟨g, 0, none⟩) (its.length + 1) cap) gg ∧ (u9.setCell ⟨P, 5, none⟩ (.slice (some ⟨g, 0, none⟩) (its.length + 1) cap)).heap[gg]? = wr.heap[gg]? from row_keep hS hl F3 hbl (.cells #[.int .i64 (m1 : Int), .int .i64 v2.kind, .int .i64 v2.num, .float .f64 v2.flt, .string ⟨v2.str.toArray⟩, .slice na2 nl2 nc2, .slice ia2 il2 ic2, .int .i64 v3.kind, .int .i64 v3.num, .float .f64 v3.flt, .string ⟨v3.str.toArray⟩, .slice na3 nl3 nc3, .slice ia3 il3 ic3] 63) hgrow hat F6)
                            have hsz9 : wr.heap.size ≤ (u9.setCell ⟨P, 5, none⟩ (.slice (some ⟨g, 0, none⟩) (its.length + 1) cap)).heap.size := Nat.le_trans (Nat.le_trans F3.size (Nat.le_trans (by simp) hgrow.size)) F6.size
                            replace a0 := a0.kept hsz9 hkeep
                            replace a1 := a1.kept hsz9 hkeep
                            replace a2 := a2.kept hsz9 hkeep
                            have HS2 : Hid (R = ((itsR letterR (N - (i + 1)) l3).bind fun y => (K3 (n0 : Int) (n1 : Int) t0 t1 t2) (its ++ [([(m1 : Int)], [v2, v3])] ++ y.1) y.2)) := by show R = _; rw [HS.out]; simp only [letterR, H1.out, H2.out, H3.out, Option.bind_some]
                            clear hkeep
                            rw [HIL.out] at b6 g6 F6 r6 a0 a1 a2
                            go_roundw
                            case rel => exact ⟨i + 1, its ++ [([(m1 : Int)], [v2, v3])], _, l3, by omega, by go_num, by simp; exact HIL.out, b6, g6, fg.trans (F6.mono (by simp)), r6, a0, a1, a2, HS2⟩
                            case measure => simp [intOf]; omega
                        · have t7 : decide ((i : Int) < (N : Int)) = false := by simp; omega
                          have hS := hE.out
                          rw [show N - i = 0 by omega, itsR] at hS
                          simp only [Option.bind_some, List.append_nil] at hS
                          have HQ : Hid (R = (listR auditR l).bind fun y => K4 (n0 : Int) (n1 : Int) t0 t1 t2 its y.1 y.2) := hS
                          have hd := hrow.done (by omega)
                          replace a0 := a0.kept (Nat.le_refl _) (T := fun g => P < g) (fun g hS _ => ⟨hS.1, rfl⟩)
                          replace a1 := a1.kept (Nat.le_refl _) (T := fun g => P < g) (fun g hS _ => ⟨hS.1, rfl⟩)
                          replace a2 := a2.kept (Nat.le_refl _) (T := fun g => P < g) (fun g hS _ => ⟨hS.1, rfl⟩)
                          clear hS hE hrow hil hi
                          generalize its = t3 at *
                          have a3 := hd; clear hd
                          generalize pa = pa3 at *
                          generalize pl = pl3 at *
                          generalize pc = pc3 at *
                          -- list 4
                          go_wp2_with fail
                          clear t7 hlt
                          refine (HMa.out _ _ hbr).mono ?_; intro e wm hp
                          rcases sl_or hp with ⟨hn, rfl, hf⟩ | ⟨N, l1, hn, rfl, G1, F1⟩
                          · have HX := Lib.hid (part_none (b := b) (w := w) (show R = none from by rw [HQ.out]; simp only [listR, hn, Option.bind_none]) ((Ar.trans (hf.mono (by simp))).fewer (Nat.le_of_eq HP.out)))
                            clear hn hp
                            go_wp2_with fail
                            exact ⟨rfl, HX.out⟩
                          · have HQ1 : Hid (R = ((itsR auditR (N - 0) l1).bind fun y => (K4 (n0 : Int) (n1 : Int) t0 t1 t2 t3) ([] ++ y.1) y.2)) := by show R = _; rw [HQ.out, listR, hn]; rfl
                            have hN5 : N ≤ 500 := manyR_bd hn
                            have hgm := F1.at hgr hnP
                            have Am := Ar.trans (F1.mono (m := [b, P]) (by simp))
                            have b0 := a0.kept F1.size (T := fun g => P < g) (fun g hS hl => ⟨hS, F1.block g hl (by have : P < g := hS; simp; omega)⟩); have b1 := a1.kept F1.size (T := fun g => P < g) (fun g hS hl => ⟨hS, F1.block g hl (by have : P < g := hS; simp; omega)⟩); have b2 := a2.kept F1.size (T := fun g => P < g) (fun g hS hl => ⟨hS, F1.block g hl (by have : P < g := hS; simp; omega)⟩); have b3 := a3.kept F1.size (T := fun g => P < g) (fun g hS hl => ⟨hS, F1.block g hl (by have : P < g := hS; simp; omega)⟩);
                            clear HQ hn hp hbr hgr Ar F1 a0 a1 a2 a3
                            dsimp only
                            go_wp2_with fail
                            go_loopw [92] (fun iv wr => ∃ (i : Nat) (its : List It) (pi : Value) (l : List UInt8), i ≤ N ∧ iv = .int .i64 (i : Int) ∧ its.length = i ∧ SrL b s l wr ∧ wr.heap[P]? = some (.cells #[.int .i64 (n0 : Int), .int .i64 (n1 : Int), .slice pa0 pl0 pc0, .slice pa1 pl1 pc1, .slice pa2 pl2 pc2, .slice pa3 pl3 pc3, pi] 28 (0, 0)) ∧ Fr [b, P] w wr ∧ RowIt P 12 5 1 11 65 its pi wr ∧ SlIn (Off P pi) wr 12 11 5 1 (.slice pa0 pl0 pc0) t0 ∧ SlIn (Off P pi) wr 12 4 4 0 (.slice pa1 pl1 pc1) t1 ∧ SlIn (Off P pi) wr 12 9 3 1 (.slice pa2 pl2 pc2) t2 ∧ SlIn (Off P pi) wr 12 13 1 2 (.slice pa3 pl3 pc3) t3 ∧ Hid (R = ((itsR auditR (N - i) l).bind fun y => (K4 (n0 : Int) (n1 : Int) t0 t1 t2 t3) (its ++ y.1) y.2))) (fun iv _ => N - (intOf iv).toNat)
                            case atStart => exact ⟨0, [], .slice none 0 0, l1, by omega, rfl, rfl, G1, hgm, Am, RowIt.nil _ _ _ _ _ _ _, b0.kept (Nat.le_refl _) (fun g hS _ => ⟨⟨hS, by simp [Value.ownBlock]⟩, rfl⟩), b1.kept (Nat.le_refl _) (fun g hS _ => ⟨⟨hS, by simp [Value.ownBlock]⟩, rfl⟩), b2.kept (Nat.le_refl _) (fun g hS _ => ⟨⟨hS, by simp [Value.ownBlock]⟩, rfl⟩), b3.kept (Nat.le_refl _) (fun g hS _ => ⟨⟨hS, by simp [Value.ownBlock]⟩, rfl⟩), HQ1⟩
                            case round =>
                              clear G1 hgm Am HQ1 b0 b1 b2 b3
                              obtain ⟨i, its, pi, l, hi, rfl, hil, hbr, hgr, Ar, hrow, a0, a1, a2, a3, hE⟩ := hrel
                              obtain ⟨pa, pl, pc, rfl⟩ : ∃ a c d, pi = .slice a c d := by
                                obtain ⟨xs, h1, _⟩ := hrow
                                rcases h1.2 with ⟨h, _⟩ | ⟨g, cap, cur, h, _⟩
                                · exact ⟨_, _, _, h⟩
                                · exact ⟨_, _, _, h⟩
                              by_cases hlt : i < N
                              · have t7 : decide ((i : Int) < (N : Int)) = true := by simp; omega
                                have hS := hE.out
                                rw [show N - i = N - (i + 1) + 1 by omega, its_stepR] at hS
                                have HS := Lib.hid hS
                                clear hS hE
                                obtain ⟨i0, hi0, hz0, hz1, hz2⟩ := Go.info_parts zero_it4
                                have HII := Lib.hid hi0; have HZ0 := Lib.hid hz0; have HZ1 := Lib.hid hz1; have HZ2 := Lib.hid hz2
                                clear hi0 hz0 hz1 hz2
                                have HIL := Lib.hid hil
                                have hPr := lt_of_block hgr
                                have c6 : wr.cell? ⟨P, 6, none⟩ = some (.slice pa pl pc) := by rw [Lib.cell_of_heap hgr]; rfl
                                have HK := Lib.hid (fun (x : World) (h : x.heap[P]? = some (.cells #[.int .i64 (n0 : Int), .int .i64 (n1 : Int), .slice pa0 pl0 pc0, .slice pa1 pl1 pc1, .slice pa2 pl2 pc2, .slice pa3 pl3 pc3, .slice pa pl pc] 28 (0, 0))) => (show x.cell? ⟨P, 6, none⟩ = some (.slice pa pl pc) ∧ x.frozen? ⟨P, 6, none⟩ = false from ⟨by rw [Lib.cell_of_heap h]; rfl, Lib.frozen_of_heap h 6⟩))
                                have A0 := Ar.drew
                                have F0 : Fr [b] wr.drew wr.drew := Fr.refl _ _
                                have G0 := hbr.drew
                                have g0 : wr.drew.heap[P]? = _ := hgr
                                go_wp2_with fail
                                go_region_law (first
                                    | ((go_simp; go_at_call 50; (with_reducible refine (HIn.out _ _ G0).mono ?_); intro e u1 hp; rcases si_or hp with ⟨hn, rfl, hf⟩ | ⟨m1, q1, l1, hn, rfl, G1, E1⟩; exact ⟨rfl, part_none (show R = none from by rw [HS.out]; simp only [auditR, hn, Option.bind_none]) ((A0.trans (hf.mono (by simp))).fewer (Nat.le_of_eq HP.out))⟩; have H1 := Lib.hid hn; clear hn hp; have g1 := E1.at g0 hnP; obtain ⟨k1, z1⟩ := HK.out _ g1; have A1 := A0.trans (E1.mono (m := [b, P]) (by simp)); have F1 := F0.trans E1; dsimp only))
                                    | ((go_simp; go_at_call 48; (with_reducible refine (HNu.out _ _ G1).mono ?_); intro e u2 hp; rcases sl_or hp with ⟨hn, rfl, hf⟩ | ⟨m2, l2, hn, rfl, G2, E2⟩; exact ⟨rfl, part_none (show R = none from by rw [HS.out]; simp only [auditR, H1.out, hn, Option.bind_some, Option.bind_none]) ((A1.trans (hf.mono (by simp))).fewer (Nat.le_of_eq HP.out))⟩; have H2 := Lib.hid hn; clear hn hp; have g2 := E2.at g1 hnP; obtain ⟨k2, z2⟩ := HK.out _ g2; have A2 := A1.trans (E2.mono (m := [b, P]) (by simp)); have F2 := F1.trans E2; dsimp only))
                                    | ((go_simp; go_at_call 48; (with_reducible refine (HNu.out _ _ G2).mono ?_); intro e u3 hp; rcases sl_or hp with ⟨hn, rfl, hf⟩ | ⟨m3, l3, hn, rfl, G3, E3⟩; exact ⟨rfl, part_none (show R = none from by rw [HS.out]; simp only [auditR, H1.out, H2.out, hn, Option.bind_some, Option.bind_none]) ((A2.trans (hf.mono (by simp))).fewer (Nat.le_of_eq HP.out))⟩; have H3 := Lib.hid hn; clear hn hp; have g3 := E3.at g2 hnP; obtain ⟨k3, z3⟩ := HK.out _ g3; have A3 := A2.trans (E3.mono (m := [b, P]) (by simp)); have F3 := F2.trans E3; dsimp only))
                                    | ((go_simp; go_at_call 48; (with_reducible refine (HNu.out _ _ G3).mono ?_); intro e u4 hp; rcases sl_or hp with ⟨hn, rfl, hf⟩ | ⟨m4, l4, hn, rfl, G4, E4⟩; exact ⟨rfl, part_none (show R = none from by rw [HS.out]; simp only [auditR, H1.out, H2.out, H3.out, hn, Option.bind_some, Option.bind_none]) ((A3.trans (hf.mono (by simp))).fewer (Nat.le_of_eq HP.out))⟩; have H4 := Lib.hid hn; clear hn hp; have g4 := E4.at g3 hnP; obtain ⟨k4, z4⟩ := HK.out _ g4; have A4 := A3.trans (E4.mono (m := [b, P]) (by simp)); have F4 := F3.trans E4; dsimp only))
                                    | ((go_simp; go_at_call 52; (with_reducible refine (HVa.out _ _ G4).mono ?_); intro e u5 hp; rcases sv_or hp with ⟨hn, rfl, hf⟩ | ⟨v5, l5, na5, nl5, nc5, ia5, il5, ic5, hn, rfl, V5, G5, E5⟩; exact ⟨rfl, part_none (show R = none from by rw [HS.out]; simp only [auditR, H1.out, H2.out, H3.out, H4.out, hn, Option.bind_some, Option.bind_none]) ((A4.trans (hf.mono (by simp))).fewer (Nat.le_of_eq HP.out))⟩; have H5 := Lib.hid hn; clear hn hp; have g5 := E5.at g4 hnP; obtain ⟨k5, z5⟩ := HK.out _ g5; have A5 := A4.trans (E5.mono (m := [b, P]) (by simp)); have F5 := F4.trans E5; have aL := (World.cell?_alloc_some u5 _ (.cells #[.int .i64 (m1 : Int), .int .i64 (q1 : Int), .int .i64 (m2 : Int), .int .i64 (m3 : Int), .int .i64 (m4 : Int), .int .i64 v5.kind, .int .i64 v5.num, .float .f64 v5.flt, .string ⟨v5.str.toArray⟩, .slice na5 nl5 nc5, .slice ia5 il5 ic5] 65) (by rw [k5]; rfl)).trans k5; obtain ⟨xs, hx, hrA⟩ := row_ready hrow F5 hbl (.cells #[.int .i64 (m1 : Int), .int .i64 (q1 : Int), .int .i64 (m2 : Int), .int .i64 (m3 : Int), .int .i64 (m4 : Int), .int .i64 v5.kind, .int .i64 v5.num, .float .f64 v5.flt, .string ⟨v5.str.toArray⟩, .slice na5 nl5 nc5, .slice ia5 il5 ic5] 65); have W5 := val_ready hrow V5 (by have := F4.size; simp at this; omega) hPr (.cells #[.int .i64 (m1 : Int), .int .i64 (q1 : Int), .int .i64 (m2 : Int), .int .i64 (m3 : Int), .int .i64 (m4 : Int), .int .i64 v5.kind, .int .i64 v5.num, .float .f64 v5.flt, .string ⟨v5.str.toArray⟩, .slice na5 nl5 nc5, .slice ia5 il5 ic5] 65); have hvA : ItIn (Off P (.slice pa pl pc)) (u5.alloc (.cells #[.int .i64 (m1 : Int), .int .i64 (q1 : Int), .int .i64 (m2 : Int), .int .i64 (m3 : Int), .int .i64 (m4 : Int), .int .i64 v5.kind, .int .i64 v5.num, .float .f64 v5.flt, .string ⟨v5.str.toArray⟩, .slice na5 nl5 nc5, .slice ia5 il5 ic5] 65)) 12 5 1 ([(m1 : Int), (q1 : Int), (m2 : Int), (m3 : Int), (m4 : Int)], [v5]) #[.int .i64 (m1 : Int), .int .i64 (q1 : Int), .int .i64 (m2 : Int), .int .i64 (m3 : Int), .int .i64 (m4 : Int), .int .i64 v5.kind, .int .i64 v5.num, .float .f64 v5.flt, .string ⟨v5.str.toArray⟩, .slice na5 nl5 nc5, .slice ia5 il5 ic5] := ⟨rfl, rfl, [#[.int .i64 v5.kind, .int .i64 v5.num, .float .f64 v5.flt, .string ⟨v5.str.toArray⟩, .slice na5 nl5 nc5, .slice ia5 il5 ic5]], rfl, fun i hi => by match i, hi with | 0, _ => exact W5, rfl⟩; dsimp only))
                                    | ((refine step_append_lies _ (by rfl) _ _ _ (by rfl) (P + 1) 65 i0 _ 11 128 Tryz.underlying26 HII.out HZ0.out HZ1.out HZ2.out rfl (by omega) (.slice pa pl pc) its.length xs (by rfl) hx ⟨u5.heap.size, 0, none⟩ 1 1 [.int .i64 (m1 : Int), .int .i64 (q1 : Int), .int .i64 (m2 : Int), .int .i64 (m3 : Int), .int .i64 (m4 : Int), .int .i64 v5.kind, .int .i64 v5.num, .float .f64 v5.flt, .string ⟨v5.str.toArray⟩, .slice na5 nl5 nc5, .slice ia5 il5 ic5] (by rfl) (by rfl) (World.news_of_block (cs := #[.int .i64 (m1 : Int), .int .i64 (q1 : Int), .int .i64 (m2 : Int), .int .i64 (m3 : Int), .int .i64 (m4 : Int), .int .i64 v5.kind, .int .i64 v5.num, .float .f64 v5.flt, .string ⟨v5.str.toArray⟩, .slice na5 nl5 nc5, .slice ia5 il5 ic5]) (t := 65) (fr := (0, 0)) (heap_alloc_new u5 _)) (by simp [Value.oneCell']) (by omega) (by unfold maxLen; omega) (by omega) (by have := F5.size; simp at this ⊢; omega) (u5.heap.size + 1) (by simp) ?_; intro g cap u9 hown hgrow hat hlt9; have hrF := hrA.item hx (by rfl) hvA hown hgrow hat (by simp); have hnO : ∀ k, k ≤ P → some k ≠ Value.ownBlock (.slice pa pl pc) := fun k hk e => absurd (own_lt hx e.symm).1 (Nat.not_le_of_lt (Nat.lt_succ_of_le hk)); have g9 := (hgrow.block P (Nat.lt_of_lt_of_le (lt_of_block g5) (by simp)) (hnO P (Nat.le_refl _))).trans ((Lib.alloc_old u5 _ P (lt_of_block g5)).trans g5); obtain ⟨k9, z9⟩ := HK.out _ g9)))
                                all_goals
                                  go_wp2_with fail
                                  have hbu : b < u5.heap.size := G5.lt
                                  have F6 := (Fr.refl [P] u9).setCell ⟨P, 6, none⟩ (by simp) (.slice (some ⟨g, 0, none⟩) (its.length + 1) cap)
                                  have g6 : (u9.setCell ⟨P, 6, none⟩ (.slice (some ⟨g, 0, none⟩) (its.length + 1) cap)).heap[P]? = some (.cells #[.int .i64 (n0 : Int), .int .i64 (n1 : Int), .slice pa0 pl0 pc0, .slice pa1 pl1 pc1, .slice pa2 pl2 pc2, .slice pa3 pl3 pc3, .slice (some ⟨g, 0, none⟩) (its.length + 1) cap] 28 (0, 0)) := heap_setN g9 6 _
                                  have b9 : SrL b s l5 u9 := ⟨G5.1, ((hgrow.block b (Nat.lt_of_lt_of_le hbu (by simp)) (hnO b (by omega))).trans (Lib.alloc_old u5 _ b hbu)).trans G5.2⟩
                                  have b6 : SrL b s l5 (u9.setCell ⟨P, 6, none⟩ (.slice (some ⟨g, 0, none⟩) (its.length + 1) cap)) := b9.kept F6 (by simpa using hbP)
                                  have A5 : Fr [b, P] w (u5.alloc (.cells #[.int .i64 (m1 : Int), .int .i64 (q1 : Int), .int .i64 (m2 : Int), .int .i64 (m3 : Int), .int .i64 (m4 : Int), .int .i64 v5.kind, .int .i64 v5.num, .float .f64 v5.flt, .string ⟨v5.str.toArray⟩, .slice na5 nl5 nc5, .slice ia5 il5 ic5] 65)) := A5.alloc _
                                  have fg : Fr [b, P] w u9 := ⟨hgrow.os.trans A5.os, hgrow.tape.trans A5.tape, hgrow.output.trans A5.output, Nat.le_trans A5.size hgrow.size, fun k hk hn => (hgrow.block k (Nat.lt_of_lt_of_le hk A5.size) (hnO k (by have := HP.out; omega))).trans (A5.block k hk hn)⟩
                                  have r6 : RowIt P 12 5 1 11 65 (its ++ [([(m1 : Int), (q1 : Int), (m2 : Int), (m3 : Int), (m4 : Int)], [v5])]) (.slice (some ⟨g, 0, none⟩) (its.length + 1) cap) (u9.setCell ⟨P, 6, none⟩ (.slice (some ⟨g, 0, none⟩) (its.length + 1) cap)) := hrF.far (b := P) F6.grown (Nat.le_refl _)
                                  have hkeep := fun (gg : Nat) (hS : Off P (.slice pa pl pc) gg) (hl : gg < wr.heap.size) => (show Off P (.slice (some ⟨g, 0, none⟩) (its.length + 1) cap) gg ∧ (u9.setCell ⟨P, 6, none⟩ (.slice (some ⟨g, 0, none⟩) (its.length + 1) cap)).heap[gg]? = wr.heap[gg]? from row_keep hS hl F5 hbl (.cells #[.int .i64 (m1 : Int), .int .i64 (q1 : Int), .int .i64 (m2 : Int), .int .i64 (m3 : Int), .int .i64 (m4 : Int), .int .i64 v5.kind, .int .i64 v5.num, .float .f64 v5.flt, .string ⟨v5.str.toArray⟩, .slice na5 nl5 nc5, .slice ia5 il5 ic5] 65) hgrow hat F6)
                                  have hsz9 : wr.heap.size ≤ (u9.setCell ⟨P, 6, none⟩ (.slice (some ⟨g, 0, none⟩) (its.length + 1) cap)).heap.size := Nat.le_trans (Nat.le_trans F5.size (Nat.le_trans (by simp) hgrow.size)) F6.size
                                  replace a0 := a0.kept hsz9 hkeep
                                  replace a1 := a1.kept hsz9 hkeep
                                  replace a2 := a2.kept hsz9 hkeep
                                  replace a3 := a3.kept hsz9 hkeep
                                  have HS2 : Hid (R = ((itsR auditR (N - (i + 1)) l5).bind fun y => (K4 (n0 : Int) (n1 : Int) t0 t1 t2 t3) (its ++ [([(m1 : Int), (q1 : Int), (m2 : Int), (m3 : Int), (m4 : Int)], [v5])] ++ y.1) y.2)) := by show R = _; rw [HS.out]; simp only [auditR, H1.out, H2.out, H3.out, H4.out, H5.out, Option.bind_some]
                                  clear hkeep
                                  rw [HIL.out] at b6 g6 F6 r6 a0 a1 a2 a3
                                  go_roundw
                                  case rel => exact ⟨i + 1, its ++ [([(m1 : Int), (q1 : Int), (m2 : Int), (m3 : Int), (m4 : Int)], [v5])], _, l5, by omega, by go_num, by simp; exact HIL.out, b6, g6, fg.trans (F6.mono (by simp)), r6, a0, a1, a2, a3, HS2⟩
                                  case measure => simp [intOf]; omega
                              · have t7 : decide ((i : Int) < (N : Int)) = false := by simp; omega
                                have hS := hE.out
                                rw [show N - i = 0 by omega, itsR] at hS
                                simp only [Option.bind_some, List.append_nil] at hS
                                have HQ : Hid (R = if l = [] then some ⟨(n0 : Int), (n1 : Int), t0, t1, t2, t3, its⟩ else none) := hS
                                have hd := hrow.done (by omega)
                                replace a0 := a0.kept (Nat.le_refl _) (T := fun g => P < g) (fun g hS _ => ⟨hS.1, rfl⟩)
                                replace a1 := a1.kept (Nat.le_refl _) (T := fun g => P < g) (fun g hS _ => ⟨hS.1, rfl⟩)
                                replace a2 := a2.kept (Nat.le_refl _) (T := fun g => P < g) (fun g hS _ => ⟨hS.1, rfl⟩)
                                replace a3 := a3.kept (Nat.le_refl _) (T := fun g => P < g) (fun g hS _ => ⟨hS.1, rfl⟩)
                                clear hS hE hrow hil hi
                                generalize its = t4 at *
                                have a4 := hd; clear hd
                                generalize pa = pa4 at *
                                generalize pl = pl4 at *
                                generalize pc = pc4 at *
                                have hsrl := hbr
                                by_cases hl0 : l = []
                                · subst hl0
                                  have HX := Lib.hid (show R = some ⟨(n0 : Int), (n1 : Int), t0, t1, t2, t3, t4⟩ from by rw [HQ.out, if_pos rfl])
                                  have d0 : wr.cell? ⟨b, 0, none⟩ = some (.string s) := hbr.2.c0
                                  have d1 : wr.cell? ⟨b, 1, none⟩ = some (.int .i64 (s.size : Int)) := hbr.2.c1
                                  clear hsrl hbr HQ
                                  go_wp2_with fail
                                  go_quiet (refine Calls.quiet_of_same ((HMy.out _).mono fun _ _ h => ⟨h.1, h.2.symm⟩))
                                  have hgE : (wr.drewN nq).heap[P]? = _ := hgr
                                  have AE := Ar.drewN nq
                                  replace a0 := a0.kept (w := wr) (w' := wr.drewN nq) (Nat.le_refl _) (T := fun g => P < g) (fun g hS _ => ⟨hS, rfl⟩)
                                  replace a1 := a1.kept (w := wr) (w' := wr.drewN nq) (Nat.le_refl _) (T := fun g => P < g) (fun g hS _ => ⟨hS, rfl⟩)
                                  replace a2 := a2.kept (w := wr) (w' := wr.drewN nq) (Nat.le_refl _) (T := fun g => P < g) (fun g hS _ => ⟨hS, rfl⟩)
                                  replace a3 := a3.kept (w := wr) (w' := wr.drewN nq) (Nat.le_refl _) (T := fun g => P < g) (fun g hS _ => ⟨hS, rfl⟩)
                                  replace a4 := a4.kept (w := wr) (w' := wr.drewN nq) (Nat.le_refl _) (T := fun g => P < g) (fun g hS _ => ⟨hS, rfl⟩)
                                  clear d0 d1 hgr Ar
                                  generalize wr.drewN nq = W at *
                                  have e0 : W.cell? ⟨P, 0, none⟩ = some (.int .i64 (n0 : Int)) := by rw [Lib.cell_of_heap hgE]; rfl
                                  have y0 : W.frozen? ⟨P, 0, none⟩ = false := Lib.frozen_of_heap hgE 0
                                  have e1 : W.cell? ⟨P, 1, none⟩ = some (.int .i64 (n1 : Int)) := by rw [Lib.cell_of_heap hgE]; rfl
                                  have y1 : W.frozen? ⟨P, 1, none⟩ = false := Lib.frozen_of_heap hgE 1
                                  have e2 : W.cell? ⟨P, 2, none⟩ = some (.slice pa0 pl0 pc0) := by rw [Lib.cell_of_heap hgE]; rfl
                                  have y2 : W.frozen? ⟨P, 2, none⟩ = false := Lib.frozen_of_heap hgE 2
                                  have e3 : W.cell? ⟨P, 3, none⟩ = some (.slice pa1 pl1 pc1) := by rw [Lib.cell_of_heap hgE]; rfl
                                  have y3 : W.frozen? ⟨P, 3, none⟩ = false := Lib.frozen_of_heap hgE 3
                                  have e4 : W.cell? ⟨P, 4, none⟩ = some (.slice pa2 pl2 pc2) := by rw [Lib.cell_of_heap hgE]; rfl
                                  have y4 : W.frozen? ⟨P, 4, none⟩ = false := Lib.frozen_of_heap hgE 4
                                  have e5 : W.cell? ⟨P, 5, none⟩ = some (.slice pa3 pl3 pc3) := by rw [Lib.cell_of_heap hgE]; rfl
                                  have y5 : W.frozen? ⟨P, 5, none⟩ = false := Lib.frozen_of_heap hgE 5
                                  have e6 : W.cell? ⟨P, 6, none⟩ = some (.slice pa4 pl4 pc4) := by rw [Lib.cell_of_heap hgE]; rfl
                                  have y6 : W.frozen? ⟨P, 6, none⟩ = false := Lib.frozen_of_heap hgE 6
                                  go_wp2_with fail
                                  have hgF : ((((((((W).setCell ⟨P, 0, none⟩ (.int .i64 (n0 : Int))).setCell ⟨P, 1, none⟩ (.int .i64 (n1 : Int))).setCell ⟨P, 2, none⟩ (.slice pa0 pl0 pc0)).setCell ⟨P, 3, none⟩ (.slice pa1 pl1 pc1)).setCell ⟨P, 4, none⟩ (.slice pa2 pl2 pc2)).setCell ⟨P, 5, none⟩ (.slice pa3 pl3 pc3)).setCell ⟨P, 6, none⟩ (.slice pa4 pl4 pc4)).heap[P]? = some (.cells #[.int .i64 (n0 : Int), .int .i64 (n1 : Int), .slice pa0 pl0 pc0, .slice pa1 pl1 pc1, .slice pa2 pl2 pc2, .slice pa3 pl3 pc3, .slice pa4 pl4 pc4] 28 (0, 0)) := heap_setN (heap_setN (heap_setN (heap_setN (heap_setN (heap_setN (heap_setN hgE 0 _) 1 _) 2 _) 3 _) 4 _) 5 _) 6 _
                                  have FF := (((((((Fr.refl [P] W).setCell ⟨P, 0, none⟩ (by simp) (.int .i64 (n0 : Int))).setCell ⟨P, 1, none⟩ (by simp) (.int .i64 (n1 : Int))).setCell ⟨P, 2, none⟩ (by simp) (.slice pa0 pl0 pc0)).setCell ⟨P, 3, none⟩ (by simp) (.slice pa1 pl1 pc1)).setCell ⟨P, 4, none⟩ (by simp) (.slice pa2 pl2 pc2)).setCell ⟨P, 5, none⟩ (by simp) (.slice pa3 pl3 pc3)).setCell ⟨P, 6, none⟩ (by simp) (.slice pa4 pl4 pc4)
                                  clear e0 y0 e1 y1 e2 y2 e3 y3 e4 y4 e5 y5 e6 y6
                                  generalize (((((((W).setCell ⟨P, 0, none⟩ (.int .i64 (n0 : Int))).setCell ⟨P, 1, none⟩ (.int .i64 (n1 : Int))).setCell ⟨P, 2, none⟩ (.slice pa0 pl0 pc0)).setCell ⟨P, 3, none⟩ (.slice pa1 pl1 pc1)).setCell ⟨P, 4, none⟩ (.slice pa2 pl2 pc2)).setCell ⟨P, 5, none⟩ (.slice pa3 pl3 pc3)).setCell ⟨P, 6, none⟩ (.slice pa4 pl4 pc4) = X at *
                                  have x0 : X.cell? ⟨P, 0, none⟩ = some (.int .i64 (n0 : Int)) := by rw [Lib.cell_of_heap hgF]; rfl
                                  have x1 : X.cell? ⟨P, 1, none⟩ = some (.int .i64 (n1 : Int)) := by rw [Lib.cell_of_heap hgF]; rfl
                                  have x2 : X.cell? ⟨P, 2, none⟩ = some (.slice pa0 pl0 pc0) := by rw [Lib.cell_of_heap hgF]; rfl
                                  have x3 : X.cell? ⟨P, 3, none⟩ = some (.slice pa1 pl1 pc1) := by rw [Lib.cell_of_heap hgF]; rfl
                                  have x4 : X.cell? ⟨P, 4, none⟩ = some (.slice pa2 pl2 pc2) := by rw [Lib.cell_of_heap hgF]; rfl
                                  have x5 : X.cell? ⟨P, 5, none⟩ = some (.slice pa3 pl3 pc3) := by rw [Lib.cell_of_heap hgF]; rfl
                                  have x6 : X.cell? ⟨P, 6, none⟩ = some (.slice pa4 pl4 pc4) := by rw [Lib.cell_of_heap hgF]; rfl
                                  have hff := AE.trans (FF.mono (m := [b, P]) (by simp))
                                  refine bodyPost_ret (v := .agg #[.int .i64 (n0 : Int), .int .i64 (n1 : Int), .slice pa0 pl0 pc0, .slice pa1 pl1 pc1, .slice pa2 pl2 pc2, .slice pa3 pl3 pc3, .slice pa4 pl4 pc4]) (by simp [results, Tryz.results24, go_sem, x0, x1, x2, x3, x4, x5, x6]) rfl ?_
                                  rw [HX.out]
                                  have hk := fun (g : Nat) (hS : P < g) (hl : g < W.heap.size) => (show w.heap.size ≤ g ∧ X.heap[g]? = W.heap[g]? from ⟨by have := HP.out; omega, FF.block g hl (by simp; omega)⟩)
                                  exact ⟨_, rfl, ⟨_, _, _, _, _, rfl, a0.kept FF.size hk, a1.kept FF.size hk, a2.kept FF.size hk, a3.kept FF.size hk, a4.kept FF.size hk⟩, hff.fewer (Nat.le_of_eq HP.out)⟩
                                · have HX := Lib.hid (show R = none from by rw [HQ.out, if_neg hl0])
                                  have d0 : wr.cell? ⟨b, 0, none⟩ = some (.string s) := hbr.2.c0
                                  have d1 : wr.cell? ⟨b, 1, none⟩ = some (.int .i64 (s.size - l.length : Nat)) := hbr.2.c1
                                  have hll : 0 < l.length ∧ l.length ≤ s.size := ⟨List.length_pos_iff.2 hl0, hbr.1.len⟩
                                  clear hsrl hbr HQ hl0
                                  generalize hq : s.size - l.length = q at *
                                  have t1 : ((q : Int) == (s.size : Int)) = false := by rw [beq_eq_false_iff_ne]; omega
                                  have t2 : q ≠ s.size := by omega
                                  clear hq hll
                                  go_wp2_with fail
                                  go_region_with ((go_at_call 46; (with_reducible refine (HMn.out _).mono ?_); rintro e w2 ⟨rfl, rfl⟩; refine shut_way (w := w) ⟨rfl, part_none HX.out (Ar.drew.fewer (Nat.le_of_eq HP.out))⟩ ?_))
                                  all_goals trivial
end Go.Proofs.YtnaamiecljinnaaGreat
