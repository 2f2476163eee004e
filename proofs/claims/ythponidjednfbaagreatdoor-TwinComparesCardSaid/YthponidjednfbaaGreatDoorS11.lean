/-
  Tw6 in one text.
-/
import Derived.Below
import Derived.BigFrame
import Derived.BigQuiet
import Derived.ChangeArms
import Derived.DataReads
import Derived.Deep.AppendLies
import Derived.Deep.AppendSrc
import Derived.Deep.Cut
import Derived.Deep.DeepCutAuto
import Derived.Deep.MidRow
import Derived.Deep.QuietTactic
import Derived.Deep.RegionHeld3
import Derived.Deep.RegionWith
import Derived.Defers
import Derived.Handy
import Derived.IntWalk
import Derived.Laws.Bits64b
import Derived.Laws.FloatBits
import Derived.Lib.AtoiAll
import Derived.Lib.Builder
import Derived.Lib.Bytealg
import Derived.Lib.Bytes
import Derived.Lib.ConvBytes
import Derived.Lib.FrozenHead2
import Derived.Lib.Hide
import Derived.Lib.IndexMore
import Derived.Lib.ItoaNum
import Derived.Lib.MinMax
import Derived.Lib.OthersKept
import Derived.Lib.ParseIntB
import Derived.Lib.UnsafeStr
import Derived.LoopTactic
import Derived.OneCell
import Derived.OwnWalk
import Derived.Recover
import Derived.RegionTactic
import Derived.Shelf.Abstract
import Derived.SizedLaws
import Derived.StillTailTactics
import Derived.Tactics
import Derived.Tactics2
import Derived.Test.YthponidjednfbaaGreatDoorChecked
import Derived.Test.YthponidjednfbaaGreatDoorEv3
import Derived.Test.YthponidjednfbaaGreatDoorEwz
import Derived.WalkKit
import Derived.WalkLawsBesides
import Derived.WalkSpells
import Derived.WideShapes
import Ieee.Arith
import Derived.Test.YthponidjednfbaaGreatDoorS00
import Derived.Test.YthponidjednfbaaGreatDoorS02
import Derived.Test.YthponidjednfbaaGreatDoorS03
import Derived.Test.YthponidjednfbaaGreatDoorS05
import Derived.Test.YthponidjednfbaaGreatDoorS06
import Derived.Test.YthponidjednfbaaGreatDoorS08
import Derived.Test.YthponidjednfbaaGreatDoorS09
import Derived.Test.YthponidjednfbaaGreatDoorS10
namespace Go.Proofs.YthponidjednfbaaGreatDoor
open Go.RowKit
set_option maxRecDepth 100000 in
set_option maxHeartbeats 4000000 in
theorem twin_law (d : Nat) (a : List (List EvT)) (d2 : Nat) (b : List (List EvT)) (w : World) {v v' : Value} (ha : SlG (entK d) (fun _ => True) w v a) (hb : SlG (entK d2) (fun _ => True) w v' b) : Calls Tryz.prog 3 #[v, v'] w (Gave (.bool true) w) := by
  have HA := Lib.hid awake28
  have HFa := Lib.hid (fun w' (k : Below w.heap.size w w') => few28_any d v a w' (ha.below k))
  have HFb := Lib.hid (fun w' (k : Below w.heap.size w w') => few28_any d2 v' b w' (hb.below k))
  have HC1 := Lib.hid (fun w' (k : Below w.heap.size w w') => tCompare_any d d2 v v' a b w' (ha.below k) (hb.below k))
  have HC2 := Lib.hid (fun w' (k : Below w.heap.size w w') => rCompare_any d d2 v v' a b w' (ha.below k) (hb.below k))
  have HC3 := Lib.hid (fun w' (k : Below w.heap.size w w') => tCompare_any d d v v a a w' (ha.below k) (ha.below k))
  rw [cmpV_self] at HC3
  clear ha hb
  go_enter Tryz.func3, Tryz.ntmps3
  go_wp2_with fail
  refine (HA.out _).mono ?_; rintro e w1 ⟨rfl, b1⟩
  go_wp2_with fail
  cases hfa : few28 a with
  | false =>
    rw [hfa] at HFa
    refine (HFa.out _ b1).mono ?_; rintro e w2 ⟨rfl, b2⟩
    have b02 := below_tr' b1 b2
    go_wp2_with fail
    refine (HA.out _).mono ?_; rintro e w3 ⟨rfl, b3⟩
    go_wp2_with fail
    go_ret
    exact ⟨rfl, below_tr' b02 b3⟩
  | true =>
    rw [hfa] at HFa
    refine (HFa.out _ b1).mono ?_; rintro e w2 ⟨rfl, b2⟩
    have b02 := below_tr' b1 b2
    clear b1 b2
    go_wp2_with fail
    cases hfb : few28 b with
    | false =>
      rw [hfb] at HFb
      refine (HFb.out _ b02).mono ?_; rintro e w3 ⟨rfl, b3⟩
      have b03 := below_tr' b02 b3
      go_wp2_with fail
      refine (HA.out _).mono ?_; rintro e w4 ⟨rfl, b4⟩
      go_wp2_with fail
      go_ret
      exact ⟨rfl, below_tr' b03 b4⟩
    | true =>
      rw [hfb] at HFb
      refine (HFb.out _ b02).mono ?_; rintro e w3 ⟨rfl, b3⟩
      have b03 := below_tr' b02 b3
      clear b02 b3
      generalize cmpV 0 a b = R at *
      obtain ⟨r1, r2⟩ := R
      simp only at HC1 HC2
      go_wp2_with fail
      refine (HC1.out _ b03).mono ?_; rintro e w4 ⟨rfl, b4⟩
      have b04 := below_tr' b03 b4
      clear b03 b4
      go_wp2_with fail
      refine (HC2.out _ b04).mono ?_; rintro e w5 ⟨rfl, b5⟩
      have b05 := below_tr' b04 b5
      clear b04 b5
      go_wp2_with fail
      refine (HC3.out _ b05).mono ?_; rintro e w6 ⟨rfl, b6⟩
      have b06 := below_tr' b05 b6
      clear b05 b6
      have t1 : (r1 == r1) = true := by simp
      have t2 : (r2 == r2) = true := by simp
      go_wp2_with fail
      go_ret
      exact ⟨ret_val (by simp), b06⟩
end Go.Proofs.YthponidjednfbaaGreatDoor
