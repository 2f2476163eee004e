/-
  G9, Ga, Gb, Gc in one text.
-/
import Derived.Below
import Derived.BigQuiet
import Derived.BigRegion
import Derived.Deep.AppendLies
import Derived.Deep.Cut
import Derived.Deep.CutBlock
import Derived.Deep.DeepCutAuto
import Derived.Deep.QuietTactic
import Derived.Deep.RegionHeld3
import Derived.Deep.RegionLaw
import Derived.Deep.RegionWith
import Derived.Defers
import Derived.Handy
import Derived.IntWalk
import Derived.Laws.Bits64b
import Derived.Laws.FloatBits
import Derived.Lib.AtoiAll
import Derived.Lib.Builder
import Derived.Lib.Bytes
import Derived.Lib.ConvBytes
import Derived.Lib.FrozenHead2
import Derived.Lib.Hide
import Derived.Lib.IndexMore
import Derived.Lib.ItoaNum
import Derived.Lib.MinMax
import Derived.Lib.OthersKept
import Derived.Lib.ParseIntB
import Derived.Lib.UnsafeStr
import Derived.LoopTactic
import Derived.OneCell
import Derived.OwnWalk
import Derived.Recover
import Derived.RegionTactic
import Derived.Shelf.Abstract
import Derived.StillTailTactics
import Derived.Tactics
import Derived.Tactics2
import Derived.Test.YtnaamiecljinnaaGreatChecked
import Derived.WalkKit
import Derived.WalkLawsBesides
import Derived.WalkSpells
import Ieee.Arith
import Derived.Test.YtnaamiecljinnaaGreatS00
import Derived.Test.YtnaamiecljinnaaGreatS02
import Derived.Test.YtnaamiecljinnaaGreatS03
import Derived.Test.YtnaamiecljinnaaGreatS08
import Derived.Test.YtnaamiecljinnaaGreatS10
import Derived.Test.YtnaamiecljinnaaGreatS11
import Derived.Test.YtnaamiecljinnaaGreatS12
import Derived.Test.YtnaamiecljinnaaGreatS14
import Derived.Test.YtnaamiecljinnaaGreatS18
import Derived.Test.YtnaamiecljinnaaGreatS19
import Derived.Test.YtnaamiecljinnaaGreatS20
import Derived.Test.YtnaamiecljinnaaGreatS21
import Derived.Test.YtnaamiecljinnaaGreatS22
import Derived.Test.YtnaamiecljinnaaGreatS23
import Derived.Test.YtnaamiecljinnaaGreatS24
namespace Go.Proofs.YtnaamiecljinnaaGreat
section
open Go.RowKit
theorem begR_none {dn p : Nat} {st : Option (List UInt8)} (h : 12 < dn ∨ 200 < p + 1) : begR dn p st = none := by unfold begR; rw [if_pos h]
theorem begR_st {dn p : Nat} {st : Option (List UInt8)} (h : ¬ (12 < dn ∨ 200 < p + 1)) : begR dn p st = st := by unfold begR; rw [if_neg h]
theorem match_items {k : Int} {l : List UInt8} {rv : Nat → List UInt8 → Option (VT × Nat × List UInt8)} {named : Bool} {p : Nat} :
    ((rdMany l).bind fun r => (rdItems rv named r.1 p r.2).map fun c => ((.mk k 0 0 [] c.1 c.2.1 : VT), c.2.2)) =
      (match rdU l with
          | none => none
          | some r => if 200 < r.1 then none else
              match rdItems rv named r.1 p r.2 with
              | none => none
              | some c => some (.mk k 0 0 [] c.1 c.2.1, c.2.2)) := by
  unfold rdMany
  cases rdU l with
  | none => rfl
  | some r =>
    show ((if 200 < r.1 then none else some r : Option (Nat × List UInt8)).bind fun r => (rdItems rv named r.1 p r.2).map fun c => ((.mk k 0 0 [] c.1 c.2.1 : VT), c.2.2)) = if 200 < r.1 then none else
              match rdItems rv named r.1 p r.2 with
              | none => none
              | some c => some (.mk k 0 0 [] c.1 c.2.1, c.2.2)
    by_cases h : 200 < r.1
    · rw [if_pos h, if_pos h]; rfl
    · rw [if_neg h, if_neg h]
      show (rdItems rv named r.1 p r.2).map _ = _
      cases rdItems rv named r.1 p r.2 <;> rfl
theorem rdV_none {f p : Nat} {st : Option (List UInt8)} {dn : Nat} (hd : dn + f = 13) (h : 12 < dn ∨ 200 < p + 1) : st.bind (rdV f p) = none := by
  cases st with
  | none => rfl
  | some l =>
    show rdV f p l = none
    cases f with
    | zero => rw [rdV]
    | succ f => rw [rdV.eq_def]; dsimp only; rw [if_pos (by omega)]
theorem rdsV_all (s : ByteArray) (hs : s.size ≤ 1000000) (b : Nat) : ∀ g, g ≤ 13 → RdsV s b g := fun g => by
  induction g with
  | zero =>
    intro _ dn st p w hd hp h
    have hR := rdV_none (f := 0) (p := p) (st := st) hd (.inl (by omega))
    rw [hR]
    exact rvalue_no s hs b st p 0 dn 0 hp none (by rw [begR_none (.inl (by omega))]; rfl) (by omega) (.inl rfl) w h
  | succ g ih =>
    intro hg dn st p w hd hp h
    have ih := ih (by omega)
    by_cases hbg : 12 < dn ∨ 200 < p + 1
    · have hR := rdV_none (f := g + 1) (p := p) (st := st) hd hbg
      rw [hR]
      exact rvalue_no s hs b st p (g + 1) dn 0 hp none (by rw [begR_none hbg]; rfl) (by omega) (.inl rfl) w h
    · have hb := begR_st (st := st) hbg
      cases st with
      | none => exact rvalue_no s hs b none p (g + 1) dn 0 hp none (by rw [hb]; rfl) (by omega) (.inl rfl) w h
      | some l0 =>
        cases l0 with
        | nil =>
          have hR : (some ([] : List UInt8)).bind (rdV (g + 1) p) = none := by
            show rdV (g + 1) p [] = none
            rw [rdV.eq_def]; dsimp only; rw [if_neg (by omega)]
          rw [hR]
          exact rvalue_no s hs b (some []) p (g + 1) dn 0 hp none (by rw [hb]; rfl) (by omega) (.inl rfl) w h
        | cons c l =>
          have hkc : outR 0 ((begR dn p (some (c :: l))).bind byteR) = (c.toNat, some l) := by rw [hb]; rfl
          have hc := c.toNat_lt
          have hR : (some (c :: l)).bind (rdV (g + 1) p) = rdV (g + 1) p (c :: l) := rfl
          rw [hR, rdV_step c l (by omega)]
          by_cases k1 : c.toNat = 1
          · rw [if_pos k1]
            rw [k1] at hkc
            have hv := rvalue_1 s hs b _ p (g + 1) dn hp l hkc w h
            cases hr : rdBool l with
            | none => rw [hr] at hv; exact hv
            | some r => rw [hr] at hv; exact hv
          rw [if_neg k1]
          by_cases k2 : c.toNat = 2
          · rw [if_pos k2]
            rw [k2] at hkc
            have hv := rvalue_2 s hs b _ p (g + 1) dn hp l hkc w h
            cases hr : rdInt l with
            | none => rw [hr] at hv; exact hv
            | some r => rw [hr] at hv; exact hv
          rw [if_neg k2]
          by_cases k3 : c.toNat = 3
          · rw [if_pos k3]
            rw [k3] at hkc
            have hv := rvalue_3 s hs b _ p (g + 1) dn hp l hkc w h
            cases hr : rdFlt l with
            | none => rw [hr] at hv; exact hv
            | some r => rw [hr] at hv; exact hv
          rw [if_neg k3]
          by_cases k4 : c.toNat = 4
          · rw [if_pos k4]
            rw [k4] at hkc
            have hv := rvalue_4 s hs b _ p (g + 1) dn hp l hkc w h
            cases hr : rdStr 200 l with
            | none => rw [hr] at hv; exact hv
            | some r => rw [hr] at hv; exact hv
          rw [if_neg k4]
          by_cases k5 : c.toNat = 5
          · rw [if_pos (.inl k5)]
            rw [k5] at hkc ⊢
            have hv := rvalue_5 s hs b _ p g dn hd hp (by omega) l hkc ih w h
            rw [match_items] at hv
            exact hv
          by_cases k6 : c.toNat = 6
          · rw [if_pos (.inr k6)]
            rw [k6] at hkc ⊢
            have hv := rvalue_6 s hs b _ p g dn hd hp (by omega) l hkc ih w h
            rw [match_items] at hv
            exact hv
          rw [if_neg (by omega)]
          exact rvalue_no s hs b _ p (g + 1) dn c.toNat hp (some l) hkc (by omega) (.inr (by omega)) w h
end
section
open Go.RowKit
set_option maxRecDepth 100000 in
set_option maxHeartbeats 4000000 in
theorem rbegin5_any (s : ByteArray) (k : Nat) (hk : k ≤ s.size) (w : World) :
    Calls Tryz.prog 27 #[.string s, .int .i64 (k : Int)] w fun e w' => e = .returned (.pointer (some ⟨w.heap.size, 0, none⟩)) ∧ RdAt w.heap.size s (some (s.data.toList.drop k)) 0 w' ∧ Below w.heap.size w w' := by
  have t0 : decide ((k : Int) < 0) = false := by simp
  have t1 : decide ((s.size : Int) < (k : Int)) = false := by simp; omega
  have t1' : ¬ s.size < k := by omega
  have hO : RdAt w.heap.size s (some (s.data.toList.drop k)) 0 (w.alloc (.cells #[.string s, .int .i64 (k : Int), .int .i64 0, .int .i64 0] 98)) := ⟨k, 0, heap_alloc_new w _, hk, (fun l h => by cases h; exact ⟨rfl, rfl⟩), (fun h => nomatch h)⟩
  have hB : Below w.heap.size w (w.alloc (.cells #[.string s, .int .i64 (k : Int), .int .i64 0, .int .i64 0] 98)) := (Below.refl _ _).alloc (Nat.le_refl _) _
  go_enter Tryz.func27, Tryz.ntmps27
  go_wp2_with fail
  go_ret
  exact ⟨rfl, hO, hB⟩
theorem at_len {s : ByteArray} {k : Nat} {l : List UInt8} (hk : k ≤ s.size) (hl : l = s.data.toList.drop k) : s.size - l.length = k := by
  have hL : s.data.toList.length = s.size := by simp
  rw [hl, List.length_drop, hL]; omega
/-- what ReadValue answers -/
def RvRet (s : ByteArray) (w : World) (r : Option (VT × List UInt8)) (e : Ending) (w' : World) : Prop := match r with
  | some x => ∃ cs, e = .returned (.tuple #[.agg cs, .int .i64 ((s.size - x.2.length : Nat) : Int), .int .i64 0]) ∧ ValIn (fun g => w.heap.size ≤ g) w' 13 x.1 cs ∧ Below w.heap.size w w'
  | none => ∃ x, x ≠ 0 ∧ e = .returned (.tuple #[.agg #[.int .i64 0, .int .i64 0, .float .f64 0, .string ⟨#[]⟩, .slice none 0 0, .slice none 0 0], .int .i64 0, .int .i64 x]) ∧ Below w.heap.size w w'
set_option maxRecDepth 100000 in
set_option maxHeartbeats 2000000 in
theorem rReadValue_any (s : ByteArray) (hs : s.size ≤ 1000000) (k : Nat) (hk : k ≤ s.size) (w : World) :
    Calls Tryz.prog 57 #[.string s, .int .i64 (k : Int)] w (RvRet s w (rdVal (s.data.toList.drop k))) := by
  have hsf : ∀ (a : Addr) (x : Nat) (m : Mode) (w : World), (store a (.float .f64 x) m).run Tryz.prog w = stored Tryz.prog w a (.float .f64 x) m := fun a x m w => run_store _ w a _ m rfl
  have HBg := Lib.hid (fun w => rbegin5_any s k hk w)
  have HV := Lib.hid (fun b (w : World) (h : RdAt b s (some (s.data.toList.drop k)) 0 w) => (show Calls Tryz.prog 86 #[.pointer (some ⟨b, 0, none⟩), .int .i64 1] w (RVal b s 12 w (rdV 12 0 (s.data.toList.drop k))) from rdsV_all s hs b 12 (by omega) 1 _ 0 w (by omega) (by omega) h))
  have hval : rdVal (s.data.toList.drop k) = match rdV 12 0 (s.data.toList.drop k) with | none => none | some r => if rightB r.1 then some (r.1, r.2.2) else none := rfl
  generalize rdVal (s.data.toList.drop k) = R at *
  generalize rdV 12 0 (s.data.toList.drop k) = r at *
  have HVal := Lib.hid hval; clear hval
  have hg0 : (w.alloc (.cells #[.int .i64 0, .int .i64 0, .float .f64 0, .string ⟨#[]⟩, .slice none 0 0, .slice none 0 0] 57)).heap[w.heap.size]? = some (.cells #[.int .i64 0, .int .i64 0, .float .f64 0, .string ⟨#[]⟩, .slice none 0 0, .slice none 0 0] 57 (0, 0)) := heap_alloc_new w _
  have hB0 : Below w.heap.size w (w.alloc (.cells #[.int .i64 0, .int .i64 0, .float .f64 0, .string ⟨#[]⟩, .slice none 0 0, .slice none 0 0] 57)) := (Below.refl _ _).alloc (Nat.le_refl _) _
  generalize hgh : w.heap.size = P at *
  have HP := Lib.hid hgh; clear hgh
  go_enter Tryz.func57, Tryz.ntmps57
  go_wp2_with fail
  rw [HP.out]
  generalize w.alloc (.cells #[.int .i64 0, .int .i64 0, .float .f64 0, .string ⟨#[]⟩, .slice none 0 0, .slice none 0 0] 57) = W0 at *
  refine (HBg.out _).mono ?_; rintro e w1 ⟨rfl, h1, hb1⟩
  have hPb : P < W0.heap.size := lt_of_block hg0
  have hg1 := (hb1.block P hPb).trans hg0
  have hB1 : Below P w w1 := hB0.trans (hb1.mono (by omega))
  clear hg0 hB0 hb1
  generalize W0.heap.size = b at *
  have hr1 := h1
  obtain ⟨k3, e3, hgr, hkr, g1, g2⟩ := hr1
  have r2 : w1.cell? ⟨b, 2, none⟩ = some (.int .i64 e3) := by rw [Lib.cell_of_heap hgr]; rfl
  obtain ⟨h0, _⟩ := g1 _ rfl
  subst h0
  clear g1 g2 hgr
  go_wp2_with fail
  refine (HV.out b w1 h1).mono ?_; rintro e w2 ⟨v, cs, q, st, rfl, V2, h2, hf2, hres⟩
  obtain ⟨na, nl, nc, ia, il, ic, rfl⟩ := V2.six
  have hg2 := hf2.at hg1 (by simp; omega)
  have hB2 : Below P w w2 := hB1.trans (hf2.below (by have := h1.lt; omega) (by simp; omega))
  clear hg1 r2 hf2
  go_upto_region 5 with (fail)
  have hgQ : (w2.alloc (.cells #[.int .i64 v.kind, .int .i64 v.num, .float .f64 v.flt, .string ⟨v.str.toArray⟩, .slice na nl nc, .slice ia il ic] 57)).heap[w2.heap.size]? = some (.cells #[.int .i64 v.kind, .int .i64 v.num, .float .f64 v.flt, .string ⟨v.str.toArray⟩, .slice na nl nc, .slice ia il ic] 57 (0, 0)) := heap_alloc_new w2 _
  have hgP := (Lib.alloc_old w2 (.cells #[.int .i64 v.kind, .int .i64 v.num, .float .f64 v.flt, .string ⟨v.str.toArray⟩, .slice na nl nc, .slice ia il ic] 57) P (lt_of_block hg2)).trans hg2
  have h3 := h2.below ((Below.refl _ _).alloc (Nat.le_refl _) (.cells #[.int .i64 v.kind, .int .i64 v.num, .float .f64 v.flt, .string ⟨v.str.toArray⟩, .slice na nl nc, .slice ia il ic] 57))
  have hB3 := hB2.alloc (by have := lt_of_block hg2; omega) (.cells #[.int .i64 v.kind, .int .i64 v.num, .float .f64 v.flt, .string ⟨v.str.toArray⟩, .slice na nl nc, .slice ia il ic] 57)
  have V3 := V2.grown (T := fun g => P < g) (World.grownBy_alloc w2 (.cells #[.int .i64 v.kind, .int .i64 v.num, .float .f64 v.flt, .string ⟨v.str.toArray⟩, .slice na nl nc, .slice ia il ic] 57) none) (fun g hg _ => ⟨by have := h1.lt; omega, by simp⟩)
  have hPQ : P < w2.heap.size := lt_of_block hg2
  have hbQ := h2.lt
  clear hg2 h2 V2 hB2
  generalize w2.alloc (.cells #[.int .i64 v.kind, .int .i64 v.num, .float .f64 v.flt, .string ⟨v.str.toArray⟩, .slice na nl nc, .slice ia il ic] 57) = w3 at *
  generalize w2.heap.size = Q at *
  have hHV := HVal.out
  cases r with
  | none =>
    have hres : st = none := hres
    subst hres
    have HN := Lib.hid (show R = none from hHV)
    clear hHV V3 hgQ
    obtain ⟨k9, e9, hgr, hkr, g1, g2⟩ := h3
    have r2 : w3.cell? ⟨b, 2, none⟩ = some (.int .i64 e9) := by rw [Lib.cell_of_heap hgr]; rfl
    have t1 : (e9 == 0) = false := beq_eq_false_iff_ne.2 (g2 rfl)
    have t2 : (e9 != 0) = true := by rw [bne_iff_ne]; exact g2 rfl
    have HX := Lib.hid (g2 rfl)
    clear g1 g2 hgr
    have e0 : w3.cell? ⟨P, 0, none⟩ = some (.int .i64 0) := by rw [Lib.cell_of_heap hgP]; rfl
    have z0 : w3.frozen? ⟨P, 0, none⟩ = false := Lib.frozen_of_heap hgP 0
    have e1 : w3.cell? ⟨P, 1, none⟩ = some (.int .i64 0) := by rw [Lib.cell_of_heap hgP]; rfl
    have z1 : w3.frozen? ⟨P, 1, none⟩ = false := Lib.frozen_of_heap hgP 1
    have e2 : w3.cell? ⟨P, 2, none⟩ = some (.float .f64 0) := by rw [Lib.cell_of_heap hgP]; rfl
    have z2 : w3.frozen? ⟨P, 2, none⟩ = false := Lib.frozen_of_heap hgP 2
    have e3 : w3.cell? ⟨P, 3, none⟩ = some (.string ⟨#[]⟩) := by rw [Lib.cell_of_heap hgP]; rfl
    have z3 : w3.frozen? ⟨P, 3, none⟩ = false := Lib.frozen_of_heap hgP 3
    have e4 : w3.cell? ⟨P, 4, none⟩ = some (.slice none 0 0) := by rw [Lib.cell_of_heap hgP]; rfl
    have z4 : w3.frozen? ⟨P, 4, none⟩ = false := Lib.frozen_of_heap hgP 4
    have e5 : w3.cell? ⟨P, 5, none⟩ = some (.slice none 0 0) := by rw [Lib.cell_of_heap hgP]; rfl
    have z5 : w3.frozen? ⟨P, 5, none⟩ = false := Lib.frozen_of_heap hgP 5
    have hgF : (((((((w3).setCell ⟨P, 0, none⟩ (.int .i64 0)).setCell ⟨P, 1, none⟩ (.int .i64 0)).setCell ⟨P, 2, none⟩ (.float .f64 0)).setCell ⟨P, 3, none⟩ (.string ⟨#[]⟩)).setCell ⟨P, 4, none⟩ (.slice none 0 0)).setCell ⟨P, 5, none⟩ (.slice none 0 0)).heap[P]? = some (.cells #[.int .i64 0, .int .i64 0, .float .f64 0, .string ⟨#[]⟩, .slice none 0 0, .slice none 0 0] 57 (0, 0)) := heap_setN (heap_setN (heap_setN (heap_setN (heap_setN (heap_setN (show w3.heap[P]? = _ from hgP) 0 _) 1 _) 2 _) 3 _) 4 _) 5 _
    have FF := ((((((Fr.refl [P] w3).setCell ⟨P, 0, none⟩ (by simp) (.int .i64 0)).setCell ⟨P, 1, none⟩ (by simp) (.int .i64 0)).setCell ⟨P, 2, none⟩ (by simp) (.float .f64 0)).setCell ⟨P, 3, none⟩ (by simp) (.string ⟨#[]⟩)).setCell ⟨P, 4, none⟩ (by simp) (.slice none 0 0)).setCell ⟨P, 5, none⟩ (by simp) (.slice none 0 0)
    go_wp2_with fail
    go_region_law (fail)
    all_goals
      clear e0 z0 e1 z1 e2 z2 e3 z3 e4 z4 e5 z5
      go_wp2_with fail
      generalize ((((((w3).setCell ⟨P, 0, none⟩ (.int .i64 0)).setCell ⟨P, 1, none⟩ (.int .i64 0)).setCell ⟨P, 2, none⟩ (.float .f64 0)).setCell ⟨P, 3, none⟩ (.string ⟨#[]⟩)).setCell ⟨P, 4, none⟩ (.slice none 0 0)).setCell ⟨P, 5, none⟩ (.slice none 0 0) = X at *
      have y0 : X.cell? ⟨P, 0, none⟩ = some (.int .i64 0) := by rw [Lib.cell_of_heap hgF]; rfl
      have y1 : X.cell? ⟨P, 1, none⟩ = some (.int .i64 0) := by rw [Lib.cell_of_heap hgF]; rfl
      have y2 : X.cell? ⟨P, 2, none⟩ = some (.float .f64 0) := by rw [Lib.cell_of_heap hgF]; rfl
      have y3 : X.cell? ⟨P, 3, none⟩ = some (.string ⟨#[]⟩) := by rw [Lib.cell_of_heap hgF]; rfl
      have y4 : X.cell? ⟨P, 4, none⟩ = some (.slice none 0 0) := by rw [Lib.cell_of_heap hgF]; rfl
      have y5 : X.cell? ⟨P, 5, none⟩ = some (.slice none 0 0) := by rw [Lib.cell_of_heap hgF]; rfl
      refine bodyPost_ret (v := .tuple #[.agg #[.int .i64 0, .int .i64 0, .float .f64 0, .string ⟨#[]⟩, .slice none 0 0, .slice none 0 0], .int .i64 0, .int .i64 e9]) (by simp [results, Tryz.results57, go_sem, y0, y1, y2, y3, y4, y5]) rfl ?_
      rw [HN.out]
      exact ⟨e9, HX.out, rfl, by rw [HP.out]; exact hB3.trans (FF.below (by have := lt_of_block hgP; omega) (by simp)).drew⟩
  | some x =>
    obtain ⟨x1, x2, x3⟩ := x
    obtain ⟨hv1, hv2, hv3⟩ := hres
    dsimp only at hv1 hv2 hv3 hHV
    subst hv1; subst hv2; subst hv3
    have hr3 := h3
    obtain ⟨k4, e4, hgr, hkr, g1, g2⟩ := hr3
    have r2 : w3.cell? ⟨b, 2, none⟩ = some (.int .i64 e4) := by rw [Lib.cell_of_heap hgr]; rfl
    obtain ⟨h0, _⟩ := g1 _ rfl
    subst h0
    clear g1 g2 hgr
    have HR := Lib.hid (rRight_any 13 v _ w3 V3.at)
    have q0 : w3.cell? ⟨Q, 0, none⟩ = some (.int .i64 v.kind) := by rw [Lib.cell_of_heap hgQ]; rfl
    have q1 : w3.cell? ⟨Q, 1, none⟩ = some (.int .i64 v.num) := by rw [Lib.cell_of_heap hgQ]; rfl
    have q2 : w3.cell? ⟨Q, 2, none⟩ = some (.float .f64 v.flt) := by rw [Lib.cell_of_heap hgQ]; rfl
    have q3 : w3.cell? ⟨Q, 3, none⟩ = some (.string ⟨v.str.toArray⟩) := by rw [Lib.cell_of_heap hgQ]; rfl
    have q4 : w3.cell? ⟨Q, 4, none⟩ = some (.slice na nl nc) := by rw [Lib.cell_of_heap hgQ]; rfl
    have q5 : w3.cell? ⟨Q, 5, none⟩ = some (.slice ia il ic) := by rw [Lib.cell_of_heap hgQ]; rfl
    cases hrb : rightB v with
    | false =>
      rw [hrb] at HR hHV
      have HN := Lib.hid (show R = none from by simpa using hHV)
      have HF := Lib.hid (fun st (w : World) (h : RdAt b s st q w) => rfail_any 5 (by decide) b q s st w h)
      clear hHV hrb V3
      go_wp2_with fail
      refine (HR.out).mono ?_; rintro e w4 ⟨rfl, hb4⟩
      have h4 := h3.below hb4
      have hgP4 := (hb4.block _ (lt_of_block hgP)).trans hgP
      have hB4 : Below P w w4 := hB3.trans (hb4.mono (by have := lt_of_block hgP; omega))
      clear hgP hB3 h3 q0 q1 q2 q3 q4 q5 r2 hb4 hgQ
      go_wp2_with fail
      refine (HF.out _ _ h4).mono ?_; rintro e w5 ⟨rfl, h5, hf5⟩
      have hgP5 := hf5.at hgP4 (by simp; omega)
      have hB5 : Below P w w5 := hB4.trans (hf5.below (by have := lt_of_block hgP4; omega) (by simp; omega))
      clear hgP4 hB4 h4 hf5
      obtain ⟨k9, e9, hgr, hkr, g1, g2⟩ := h5
      have r2 : w5.cell? ⟨b, 2, none⟩ = some (.int .i64 e9) := by rw [Lib.cell_of_heap hgr]; rfl
      have t1 : (e9 == 0) = false := beq_eq_false_iff_ne.2 (g2 rfl)
      have t2 : (e9 != 0) = true := by rw [bne_iff_ne]; exact g2 rfl
      have HX := Lib.hid (g2 rfl)
      clear g1 g2 hgr
      have e0 : w5.cell? ⟨P, 0, none⟩ = some (.int .i64 0) := by rw [Lib.cell_of_heap hgP5]; rfl
      have z0 : w5.frozen? ⟨P, 0, none⟩ = false := Lib.frozen_of_heap hgP5 0
      have e1 : w5.cell? ⟨P, 1, none⟩ = some (.int .i64 0) := by rw [Lib.cell_of_heap hgP5]; rfl
      have z1 : w5.frozen? ⟨P, 1, none⟩ = false := Lib.frozen_of_heap hgP5 1
      have e2 : w5.cell? ⟨P, 2, none⟩ = some (.float .f64 0) := by rw [Lib.cell_of_heap hgP5]; rfl
      have z2 : w5.frozen? ⟨P, 2, none⟩ = false := Lib.frozen_of_heap hgP5 2
      have e3 : w5.cell? ⟨P, 3, none⟩ = some (.string ⟨#[]⟩) := by rw [Lib.cell_of_heap hgP5]; rfl
      have z3 : w5.frozen? ⟨P, 3, none⟩ = false := Lib.frozen_of_heap hgP5 3
      have e4 : w5.cell? ⟨P, 4, none⟩ = some (.slice none 0 0) := by rw [Lib.cell_of_heap hgP5]; rfl
      have z4 : w5.frozen? ⟨P, 4, none⟩ = false := Lib.frozen_of_heap hgP5 4
      have e5 : w5.cell? ⟨P, 5, none⟩ = some (.slice none 0 0) := by rw [Lib.cell_of_heap hgP5]; rfl
      have z5 : w5.frozen? ⟨P, 5, none⟩ = false := Lib.frozen_of_heap hgP5 5
      have hgF : (((((((w5).setCell ⟨P, 0, none⟩ (.int .i64 0)).setCell ⟨P, 1, none⟩ (.int .i64 0)).setCell ⟨P, 2, none⟩ (.float .f64 0)).setCell ⟨P, 3, none⟩ (.string ⟨#[]⟩)).setCell ⟨P, 4, none⟩ (.slice none 0 0)).setCell ⟨P, 5, none⟩ (.slice none 0 0)).heap[P]? = some (.cells #[.int .i64 0, .int .i64 0, .float .f64 0, .string ⟨#[]⟩, .slice none 0 0, .slice none 0 0] 57 (0, 0)) := heap_setN (heap_setN (heap_setN (heap_setN (heap_setN (heap_setN (show w5.heap[P]? = _ from hgP5) 0 _) 1 _) 2 _) 3 _) 4 _) 5 _
      have FF := ((((((Fr.refl [P] w5).setCell ⟨P, 0, none⟩ (by simp) (.int .i64 0)).setCell ⟨P, 1, none⟩ (by simp) (.int .i64 0)).setCell ⟨P, 2, none⟩ (by simp) (.float .f64 0)).setCell ⟨P, 3, none⟩ (by simp) (.string ⟨#[]⟩)).setCell ⟨P, 4, none⟩ (by simp) (.slice none 0 0)).setCell ⟨P, 5, none⟩ (by simp) (.slice none 0 0)
      go_wp2_with fail
      go_region_law (fail)
      all_goals
        clear e0 z0 e1 z1 e2 z2 e3 z3 e4 z4 e5 z5
        go_wp2_with fail
        generalize ((((((w5).setCell ⟨P, 0, none⟩ (.int .i64 0)).setCell ⟨P, 1, none⟩ (.int .i64 0)).setCell ⟨P, 2, none⟩ (.float .f64 0)).setCell ⟨P, 3, none⟩ (.string ⟨#[]⟩)).setCell ⟨P, 4, none⟩ (.slice none 0 0)).setCell ⟨P, 5, none⟩ (.slice none 0 0) = X at *
        have y0 : X.cell? ⟨P, 0, none⟩ = some (.int .i64 0) := by rw [Lib.cell_of_heap hgF]; rfl
        have y1 : X.cell? ⟨P, 1, none⟩ = some (.int .i64 0) := by rw [Lib.cell_of_heap hgF]; rfl
        have y2 : X.cell? ⟨P, 2, none⟩ = some (.float .f64 0) := by rw [Lib.cell_of_heap hgF]; rfl
        have y3 : X.cell? ⟨P, 3, none⟩ = some (.string ⟨#[]⟩) := by rw [Lib.cell_of_heap hgF]; rfl
        have y4 : X.cell? ⟨P, 4, none⟩ = some (.slice none 0 0) := by rw [Lib.cell_of_heap hgF]; rfl
        have y5 : X.cell? ⟨P, 5, none⟩ = some (.slice none 0 0) := by rw [Lib.cell_of_heap hgF]; rfl
        refine bodyPost_ret (v := .tuple #[.agg #[.int .i64 0, .int .i64 0, .float .f64 0, .string ⟨#[]⟩, .slice none 0 0, .slice none 0 0], .int .i64 0, .int .i64 e9]) (by simp [results, Tryz.results57, go_sem, y0, y1, y2, y3, y4, y5]) rfl ?_
        rw [HN.out]
        exact ⟨e9, HX.out, rfl, by rw [HP.out]; exact hB5.trans (FF.below (by have := lt_of_block hgP5; omega) (by simp)).drew⟩
    | true =>
      rw [hrb] at HR hHV
      have HN := Lib.hid (show R = some (v, x3) from by simpa using hHV)
      clear hHV hrb
      go_wp2_with fail
      refine (HR.out).mono ?_; rintro e w4 ⟨rfl, hb4⟩
      have h4 := h3.below hb4
      have hgP4 := (hb4.block _ (lt_of_block hgP)).trans hgP
      have hgQ4 := (hb4.block _ (lt_of_block hgQ)).trans hgQ
      have hB4 : Below P w w4 := hB3.trans (hb4.mono (by have := lt_of_block hgP; omega))
      have V4 := V3.kept (T := fun g => P < g) hb4.size (fun g hg hl => ⟨hg, hb4.block g hl⟩)
      clear hgP hB3 h3 q0 q1 q2 q3 q4 q5 r2 hb4 hgQ V3
      obtain ⟨k9, e9, hgr, hkr9, g1, g2⟩ := h4
      have r1 : w4.cell? ⟨b, 1, none⟩ = some (.int .i64 (k9 : Int)) := by rw [Lib.cell_of_heap hgr]; rfl
      have r2 : w4.cell? ⟨b, 2, none⟩ = some (.int .i64 e9) := by rw [Lib.cell_of_heap hgr]; rfl
      obtain ⟨h0, hl9⟩ := g1 _ rfl
      subst h0
      have HK := Lib.hid (at_len hkr9 hl9)
      clear g1 g2 hgr hl9
      have q0 : w4.cell? ⟨Q, 0, none⟩ = some (.int .i64 v.kind) := by rw [Lib.cell_of_heap hgQ4]; rfl
      have q1 : w4.cell? ⟨Q, 1, none⟩ = some (.int .i64 v.num) := by rw [Lib.cell_of_heap hgQ4]; rfl
      have q2 : w4.cell? ⟨Q, 2, none⟩ = some (.float .f64 v.flt) := by rw [Lib.cell_of_heap hgQ4]; rfl
      have q3 : w4.cell? ⟨Q, 3, none⟩ = some (.string ⟨v.str.toArray⟩) := by rw [Lib.cell_of_heap hgQ4]; rfl
      have q4 : w4.cell? ⟨Q, 4, none⟩ = some (.slice na nl nc) := by rw [Lib.cell_of_heap hgQ4]; rfl
      have q5 : w4.cell? ⟨Q, 5, none⟩ = some (.slice ia il ic) := by rw [Lib.cell_of_heap hgQ4]; rfl
      have e0 : w4.cell? ⟨P, 0, none⟩ = some (.int .i64 0) := by rw [Lib.cell_of_heap hgP4]; rfl
      have z0 : w4.frozen? ⟨P, 0, none⟩ = false := Lib.frozen_of_heap hgP4 0
      have e1 : w4.cell? ⟨P, 1, none⟩ = some (.int .i64 0) := by rw [Lib.cell_of_heap hgP4]; rfl
      have z1 : w4.frozen? ⟨P, 1, none⟩ = false := Lib.frozen_of_heap hgP4 1
      have e2 : w4.cell? ⟨P, 2, none⟩ = some (.float .f64 0) := by rw [Lib.cell_of_heap hgP4]; rfl
      have z2 : w4.frozen? ⟨P, 2, none⟩ = false := Lib.frozen_of_heap hgP4 2
      have e3 : w4.cell? ⟨P, 3, none⟩ = some (.string ⟨#[]⟩) := by rw [Lib.cell_of_heap hgP4]; rfl
      have z3 : w4.frozen? ⟨P, 3, none⟩ = false := Lib.frozen_of_heap hgP4 3
      have e4 : w4.cell? ⟨P, 4, none⟩ = some (.slice none 0 0) := by rw [Lib.cell_of_heap hgP4]; rfl
      have z4 : w4.frozen? ⟨P, 4, none⟩ = false := Lib.frozen_of_heap hgP4 4
      have e5 : w4.cell? ⟨P, 5, none⟩ = some (.slice none 0 0) := by rw [Lib.cell_of_heap hgP4]; rfl
      have z5 : w4.frozen? ⟨P, 5, none⟩ = false := Lib.frozen_of_heap hgP4 5
      have hgF : (((((((w4).setCell ⟨P, 0, none⟩ (.int .i64 v.kind)).setCell ⟨P, 1, none⟩ (.int .i64 v.num)).setCell ⟨P, 2, none⟩ (.float .f64 v.flt)).setCell ⟨P, 3, none⟩ (.string ⟨v.str.toArray⟩)).setCell ⟨P, 4, none⟩ (.slice na nl nc)).setCell ⟨P, 5, none⟩ (.slice ia il ic)).heap[P]? = some (.cells #[.int .i64 v.kind, .int .i64 v.num, .float .f64 v.flt, .string ⟨v.str.toArray⟩, .slice na nl nc, .slice ia il ic] 57 (0, 0)) := heap_setN (heap_setN (heap_setN (heap_setN (heap_setN (heap_setN (show w4.heap[P]? = _ from hgP4) 0 _) 1 _) 2 _) 3 _) 4 _) 5 _
      have FF := ((((((Fr.refl [P] w4).setCell ⟨P, 0, none⟩ (by simp) (.int .i64 v.kind)).setCell ⟨P, 1, none⟩ (by simp) (.int .i64 v.num)).setCell ⟨P, 2, none⟩ (by simp) (.float .f64 v.flt)).setCell ⟨P, 3, none⟩ (by simp) (.string ⟨v.str.toArray⟩)).setCell ⟨P, 4, none⟩ (by simp) (.slice na nl nc)).setCell ⟨P, 5, none⟩ (by simp) (.slice ia il ic)
      have V5 := V4.fr (l := [P]) FF (fun g hg => by simp at hg; subst hg; exact Nat.lt_irrefl _)
      have hB5 : Below P w (((((((w4).setCell ⟨P, 0, none⟩ (.int .i64 v.kind)).setCell ⟨P, 1, none⟩ (.int .i64 v.num)).setCell ⟨P, 2, none⟩ (.float .f64 v.flt)).setCell ⟨P, 3, none⟩ (.string ⟨v.str.toArray⟩)).setCell ⟨P, 4, none⟩ (.slice na nl nc)).setCell ⟨P, 5, none⟩ (.slice ia il ic)) := hB4.trans (FF.below (by have := lt_of_block hgP4; omega) (by simp))
      go_wp2_with fail
      go_region_law (fail)
      all_goals
        clear e0 z0 q0 e1 z1 q1 e2 z2 q2 e3 z3 q3 e4 z4 q4 e5 z5 q5 r1 r2
        go_wp2_with fail
        generalize ((((((w4).setCell ⟨P, 0, none⟩ (.int .i64 v.kind)).setCell ⟨P, 1, none⟩ (.int .i64 v.num)).setCell ⟨P, 2, none⟩ (.float .f64 v.flt)).setCell ⟨P, 3, none⟩ (.string ⟨v.str.toArray⟩)).setCell ⟨P, 4, none⟩ (.slice na nl nc)).setCell ⟨P, 5, none⟩ (.slice ia il ic) = X at *
        have y0 : X.cell? ⟨P, 0, none⟩ = some (.int .i64 v.kind) := by rw [Lib.cell_of_heap hgF]; rfl
        have y1 : X.cell? ⟨P, 1, none⟩ = some (.int .i64 v.num) := by rw [Lib.cell_of_heap hgF]; rfl
        have y2 : X.cell? ⟨P, 2, none⟩ = some (.float .f64 v.flt) := by rw [Lib.cell_of_heap hgF]; rfl
        have y3 : X.cell? ⟨P, 3, none⟩ = some (.string ⟨v.str.toArray⟩) := by rw [Lib.cell_of_heap hgF]; rfl
        have y4 : X.cell? ⟨P, 4, none⟩ = some (.slice na nl nc) := by rw [Lib.cell_of_heap hgF]; rfl
        have y5 : X.cell? ⟨P, 5, none⟩ = some (.slice ia il ic) := by rw [Lib.cell_of_heap hgF]; rfl
        refine bodyPost_ret (v := .tuple #[.agg #[.int .i64 v.kind, .int .i64 v.num, .float .f64 v.flt, .string ⟨v.str.toArray⟩, .slice na nl nc, .slice ia il ic], .int .i64 (k9 : Int), .int .i64 0]) (by simp [results, Tryz.results57, go_sem, y0, y1, y2, y3, y4, y5]) rfl ?_
        rw [HN.out]
        refine ⟨_, ?_, V5.kept (Nat.le_refl _) (fun g hg _ => ⟨by have := HP.out; omega, rfl⟩), by rw [HP.out]; exact hB5.drew⟩
        dsimp only
        rw [HK.out]
end
section
open Go.RowKit
set_option maxRecDepth 100000 in
set_option maxHeartbeats 4000000 in
theorem ifail_any (b p : Nat) (s : ByteArray) (st : Option (List UInt8)) (w : World) (h : RdAt b s st p w) :
    Calls Tryz.prog 55 #[.agg #[.pointer (some ⟨b, 0, none⟩)]] w fun e w' => e = .returned (.tuple #[]) ∧ RdAt b s none p w' ∧ Fr [b] w w' := by
  have h0 := h.below ((Below.refl _ _).alloc (Nat.le_refl _) (.cells #[.pointer (some ⟨b, 0, none⟩)] 93))
  have hgB : (w.alloc (.cells #[.pointer (some ⟨b, 0, none⟩)] 93)).heap[w.heap.size]? = some (.cells #[.pointer (some ⟨b, 0, none⟩)] 93 (0, 0)) := heap_alloc_new w _
  have hF0 := (Fr.refl [b] w).alloc (.cells #[.pointer (some ⟨b, 0, none⟩)] 93)
  have hnB : w.heap.size ∉ [b] := by have := h.lt; simp; omega
  clear h
  obtain ⟨k, e, hg, hk, h1, h2⟩ := h0
  by_cases h0 : e = 0
  · have t0 : (e == 0) = true := by rw [h0]; rfl
    go_enter Tryz.func55, Tryz.ntmps55
    go_upto_region 1 with (fail)
    generalize w.alloc (.cells #[.pointer (some ⟨b, 0, none⟩)] 93) = W1 at *
    have z2 : W1.frozen? ⟨b, 2, none⟩ = false := Lib.frozen_of_heap hg 2
    have c2 : W1.cell? ⟨b, 2, none⟩ = some (.int .i64 e) := by rw [Lib.cell_of_heap hg]; rfl
    have hO : RdAt b s none p (W1.setCell ⟨b, 2, none⟩ (.int .i64 5)) := ⟨k, 5, heap_setN hg 2 _, hk, (fun _ h => nomatch h), fun _ => by decide⟩
    have hF := hF0.setCell ⟨b, 2, none⟩ (by simp) (.int .i64 5)
    have x0 : W1.cell? ⟨w.heap.size, 0, none⟩ = some (.pointer (some ⟨b, 0, none⟩)) := by rw [Lib.cell_of_heap hgB]; rfl
    clear h0 hg h1 h2
    go_wp2_with fail
    go_end0
    exact ⟨rfl, hO, hF⟩
  · have t0 : (e == 0) = false := beq_eq_false_iff_ne.2 h0
    go_enter Tryz.func55, Tryz.ntmps55
    go_upto_region 1 with (fail)
    generalize w.alloc (.cells #[.pointer (some ⟨b, 0, none⟩)] 93) = W1 at *
    have c2 : W1.cell? ⟨b, 2, none⟩ = some (.int .i64 e) := by rw [Lib.cell_of_heap hg]; rfl
    have hO : RdAt b s none p W1 := ⟨k, e, hg, hk, (fun _ h => nomatch h), fun _ => h0⟩
    have x0 : W1.cell? ⟨w.heap.size, 0, none⟩ = some (.pointer (some ⟨b, 0, none⟩)) := by rw [Lib.cell_of_heap hgB]; rfl
    clear h0 hg h1 h2
    go_wp2_with fail
    go_end0
    exact ⟨rfl, hO, hF0⟩
set_option maxRecDepth 100000 in
set_option maxHeartbeats 4000000 in
theorem iok_any (b p : Nat) (s : ByteArray) (st : Option (List UInt8)) (w : World) (h : RdAt b s st p w) :
    Calls Tryz.prog 30 #[.agg #[.pointer (some ⟨b, 0, none⟩)]] w fun e w' => e = .returned (.bool st.isSome) ∧ RdAt b s st p w' ∧ Fr [b] w w' := by
  have h0 := h.below ((Below.refl _ _).alloc (Nat.le_refl _) (.cells #[.pointer (some ⟨b, 0, none⟩)] 93))
  have hgB : (w.alloc (.cells #[.pointer (some ⟨b, 0, none⟩)] 93)).heap[w.heap.size]? = some (.cells #[.pointer (some ⟨b, 0, none⟩)] 93 (0, 0)) := heap_alloc_new w _
  have hF0 := (Fr.refl [b] w).alloc (.cells #[.pointer (some ⟨b, 0, none⟩)] 93)
  have hnB : w.heap.size ∉ [b] := by have := h.lt; simp; omega
  clear h
  have hO := h0
  obtain ⟨k, e, hg, hk, h1, h2⟩ := h0
  cases st with
  | none =>
    have t0 : (e == 0) = false := beq_eq_false_iff_ne.2 (h2 rfl)
    go_enter Tryz.func30, Tryz.ntmps30
    go_upto_region 1 with (fail)
    generalize w.alloc (.cells #[.pointer (some ⟨b, 0, none⟩)] 93) = W1 at *
    have c2 : W1.cell? ⟨b, 2, none⟩ = some (.int .i64 e) := by rw [Lib.cell_of_heap hg]; rfl
    have x0 : W1.cell? ⟨w.heap.size, 0, none⟩ = some (.pointer (some ⟨b, 0, none⟩)) := by rw [Lib.cell_of_heap hgB]; rfl
    clear hg h1 h2
    go_wp2_with fail
    go_ret
    exact ⟨rfl, hO, hF0⟩
  | some l =>
    obtain ⟨he, _⟩ := h1 l rfl
    subst he
    go_enter Tryz.func30, Tryz.ntmps30
    go_upto_region 1 with (fail)
    generalize w.alloc (.cells #[.pointer (some ⟨b, 0, none⟩)] 93) = W1 at *
    have c2 : W1.cell? ⟨b, 2, none⟩ = some (.int .i64 0) := by rw [Lib.cell_of_heap hg]; rfl
    have x0 : W1.cell? ⟨w.heap.size, 0, none⟩ = some (.pointer (some ⟨b, 0, none⟩)) := by rw [Lib.cell_of_heap hgB]; rfl
    clear hg h1 h2
    go_wp2_with fail
    go_ret
    exact ⟨rfl, hO, hF0⟩
theorem numR_of (st : Option (List UInt8)) : outR 0 (st.bind numR) = if 2199023255552 < (outR 0 (st.bind rdU)).1 then (0, none) else outR 0 (st.bind rdU) := by
  cases st with
  | none => rfl
  | some l =>
    show outR 0 (numR l) = if 2199023255552 < (outR 0 (rdU l)).1 then (0, none) else outR 0 (rdU l)
    unfold numR
    cases rdU l with
    | none => rfl
    | some r =>
      show outR 0 (if r.1 ≤ 2199023255552 then some r else none) = if 2199023255552 < r.1 then (0, none) else (r.1, some r.2)
      by_cases hb : r.1 ≤ 2199023255552
      · rw [if_pos hb, if_neg (by omega)]; rfl
      · rw [if_neg hb, if_pos (by omega)]; rfl
theorem manyR_of (st : Option (List UInt8)) : outR 0 (st.bind manyR) = if 500 < (outR 0 (st.bind numR)).1 then (0, none) else outR 0 (st.bind numR) := by
  cases st with
  | none => rfl
  | some l =>
    show outR 0 (manyR l) = if 500 < (outR 0 (numR l)).1 then (0, none) else outR 0 (numR l)
    unfold manyR
    cases numR l with
    | none => rfl
    | some r =>
      show outR 0 (if r.1 ≤ 500 then some r else none) = if 500 < r.1 then (0, none) else (r.1, some r.2)
      by_cases hb : r.1 ≤ 500
      · rw [if_pos hb, if_neg (by omega)]; rfl
      · rw [if_neg hb, if_pos (by omega)]; rfl
set_option maxRecDepth 100000 in
set_option maxHeartbeats 4000000 in
theorem inum_any (b p : Nat) (s : ByteArray) (hs : s.size ≤ 1000000) (st : Option (List UInt8)) (w : World) (h : RdAt b s st p w) :
    Calls Tryz.prog 28 #[.agg #[.pointer (some ⟨b, 0, none⟩)]] w (RdCall b s p w ((fun x => (.int .i64 ((x.1 : Nat) : Int), x.2)) (outR 0 (st.bind numR)))) := by
  have h0 := h.below ((Below.refl _ _).alloc (Nat.le_refl _) (.cells #[.pointer (some ⟨b, 0, none⟩)] 93))
  have hgB : (w.alloc (.cells #[.pointer (some ⟨b, 0, none⟩)] 93)).heap[w.heap.size]? = some (.cells #[.pointer (some ⟨b, 0, none⟩)] 93 (0, 0)) := heap_alloc_new w _
  have hF0 := (Fr.refl [b] w).alloc (.cells #[.pointer (some ⟨b, 0, none⟩)] 93)
  have hnB : w.heap.size ∉ [b] := by have := h.lt; simp; omega
  have HC := Lib.hid (ruint_any b p s hs st _ h0)
  have HF := Lib.hid (fun st (w : World) (h : RdAt b s st p w) => ifail_any b p s st w h)
  have hq := numR_of st
  have hlt := rdU_lt st
  generalize outR 0 (st.bind rdU) = q at *
  generalize outR 0 (st.bind numR) = Q at *
  obtain ⟨n, st2⟩ := q
  dsimp only at hq HC hlt
  clear h h0
  by_cases hn : 2199023255552 < n
  · rw [if_pos hn] at hq
    have HQ := Lib.hid hq
    have t1 : decide ((2199023255552 : Int) < (n : Int)) = true := by simp; omega
    clear hq hn
    go_enter Tryz.func28, Tryz.ntmps28
    go_upto_region 1 with (fail)
    generalize w.alloc (.cells #[.pointer (some ⟨b, 0, none⟩)] 93) = W1 at *
    have x0 : W1.cell? ⟨w.heap.size, 0, none⟩ = some (.pointer (some ⟨b, 0, none⟩)) := by rw [Lib.cell_of_heap hgB]; rfl
    go_wp2_with fail
    refine (HC.out).mono ?_; rintro e w2 ⟨rfl, h2, hf2⟩
    dsimp only at h2 ⊢
    have hgB2 := hf2.at hgB hnB
    clear x0
    have x0 : w2.cell? ⟨w.heap.size, 0, none⟩ = some (.pointer (some ⟨b, 0, none⟩)) := by rw [Lib.cell_of_heap hgB2]; rfl
    go_wp2_with fail
    refine (HF.out _ _ h2).mono ?_; rintro e w3 ⟨rfl, h3, hf3⟩
    go_wp2_with fail
    go_ret
    exact ⟨ret_val (by rw [HQ.out]; rfl), by rw [HQ.out]; exact h3, (hF0.trans hf2).trans hf3⟩
  · rw [if_neg hn] at hq
    have HQ := Lib.hid hq
    have t1 : decide ((2199023255552 : Int) < (n : Int)) = false := by simp; omega
    have wn : IntKind.i64.wrap (n : Int) = (n : Int) := by rw [IntKind.wrap_i64]; omega
    clear hq
    go_enter Tryz.func28, Tryz.ntmps28
    go_upto_region 1 with (fail)
    generalize w.alloc (.cells #[.pointer (some ⟨b, 0, none⟩)] 93) = W1 at *
    have x0 : W1.cell? ⟨w.heap.size, 0, none⟩ = some (.pointer (some ⟨b, 0, none⟩)) := by rw [Lib.cell_of_heap hgB]; rfl
    go_wp2_with fail
    refine (HC.out).mono ?_; rintro e w2 ⟨rfl, h2, hf2⟩
    dsimp only at h2 ⊢
    go_wp2_with fail
    go_ret
    exact ⟨ret_val (by rw [HQ.out]; rfl), by rw [HQ.out]; exact h2, hF0.trans hf2⟩
theorem numR_lt (st : Option (List UInt8)) : (outR 0 (st.bind numR)).1 ≤ 2199023255552 := by
  rw [numR_of]
  split
  · show 0 ≤ 2199023255552; omega
  · omega
set_option maxRecDepth 100000 in
set_option maxHeartbeats 4000000 in
theorem imany_any (b p : Nat) (s : ByteArray) (hs : s.size ≤ 1000000) (st : Option (List UInt8)) (w : World) (h : RdAt b s st p w) :
    Calls Tryz.prog 29 #[.agg #[.pointer (some ⟨b, 0, none⟩)]] w (RdCall b s p w ((fun x => (.int .i64 ((x.1 : Nat) : Int), x.2)) (outR 0 (st.bind manyR)))) := by
  have h0 := h.below ((Below.refl _ _).alloc (Nat.le_refl _) (.cells #[.pointer (some ⟨b, 0, none⟩)] 93))
  have hgB : (w.alloc (.cells #[.pointer (some ⟨b, 0, none⟩)] 93)).heap[w.heap.size]? = some (.cells #[.pointer (some ⟨b, 0, none⟩)] 93 (0, 0)) := heap_alloc_new w _
  have hF0 := (Fr.refl [b] w).alloc (.cells #[.pointer (some ⟨b, 0, none⟩)] 93)
  have hnB : w.heap.size ∉ [b] := by have := h.lt; simp; omega
  have HC := Lib.hid (inum_any b p s hs st _ h0)
  have HF := Lib.hid (fun st (w : World) (h : RdAt b s st p w) => ifail_any b p s st w h)
  have hq := manyR_of st
  generalize outR 0 (st.bind numR) = q at *
  generalize outR 0 (st.bind manyR) = Q at *
  obtain ⟨n, st2⟩ := q
  dsimp only at hq HC
  clear h h0
  by_cases hn : 500 < n
  · rw [if_pos hn] at hq
    have HQ := Lib.hid hq
    have t1 : decide ((500 : Int) < (n : Int)) = true := by simp; omega
    clear hq hn
    go_enter Tryz.func29, Tryz.ntmps29
    go_upto_region 1 with (fail)
    generalize w.alloc (.cells #[.pointer (some ⟨b, 0, none⟩)] 93) = W1 at *
    have x0 : W1.cell? ⟨w.heap.size, 0, none⟩ = some (.pointer (some ⟨b, 0, none⟩)) := by rw [Lib.cell_of_heap hgB]; rfl
    go_wp2_with fail
    refine (HC.out).mono ?_; rintro e w2 ⟨rfl, h2, hf2⟩
    dsimp only at h2 ⊢
    have hgB2 := hf2.at hgB hnB
    clear x0
    have x0 : w2.cell? ⟨w.heap.size, 0, none⟩ = some (.pointer (some ⟨b, 0, none⟩)) := by rw [Lib.cell_of_heap hgB2]; rfl
    go_wp2_with fail
    refine (HF.out _ _ h2).mono ?_; rintro e w3 ⟨rfl, h3, hf3⟩
    go_wp2_with fail
    go_ret
    exact ⟨ret_val (by rw [HQ.out]; rfl), by rw [HQ.out]; exact h3, (hF0.trans hf2).trans hf3⟩
  · rw [if_neg hn] at hq
    have HQ := Lib.hid hq
    have t1 : decide ((500 : Int) < (n : Int)) = false := by simp; omega
    have wn : IntKind.i64.wrap (n : Int) = (n : Int) := by rw [IntKind.wrap_i64]; omega
    clear hq
    go_enter Tryz.func29, Tryz.ntmps29
    go_upto_region 1 with (fail)
    generalize w.alloc (.cells #[.pointer (some ⟨b, 0, none⟩)] 93) = W1 at *
    have x0 : W1.cell? ⟨w.heap.size, 0, none⟩ = some (.pointer (some ⟨b, 0, none⟩)) := by rw [Lib.cell_of_heap hgB]; rfl
    go_wp2_with fail
    refine (HC.out).mono ?_; rintro e w2 ⟨rfl, h2, hf2⟩
    dsimp only at h2 ⊢
    go_wp2_with fail
    go_ret
    exact ⟨ret_val (by rw [HQ.out]; rfl), by rw [HQ.out]; exact h2, hF0.trans hf2⟩
end
section
open Go.RowKit
/-- x is what was to be read, or there is an error -/
def IsO {α : Type} (r : Option (α × List UInt8)) (x : α) (st : Option (List UInt8)) : Prop := match r with
  | some y => x = y.1 ∧ st = some y.2
  | none => st = none
theorem isO_out {α : Type} (d : α) (r : Option (α × List UInt8)) : IsO r (outR d r).1 (outR d r).2 := by
  cases r with
  | none => rfl
  | some y => exact ⟨rfl, rfl⟩
theorem isO_inst {st st1 st2 : Option (List UInt8)} {a n : Nat} (h1 : IsO (st.bind numR) a st1) (h2 : IsO (st1.bind numR) n st2) : IsO (st.bind instR) (a, n) st2 := by
  cases st with
  | none =>
    have h1 : st1 = none := h1
    subst h1
    exact h2
  | some l =>
    have h1 : IsO (numR l) a st1 := h1
    show IsO (instR l) (a, n) st2
    unfold instR
    cases hr : numR l with
    | none =>
      rw [hr] at h1
      have h1 : st1 = none := h1
      subst h1
      exact h2
    | some r =>
      rw [hr] at h1
      obtain ⟨rfl, rfl⟩ := h1
      have h2 : IsO (numR r.2) n st2 := h2
      show IsO (match numR r.2 with | none => none | some q => some ((r.1, q.1), q.2)) (r.1, n) st2
      cases hr2 : numR r.2 with
      | none => rw [hr2] at h2; exact h2
      | some q =>
        rw [hr2] at h2
        obtain ⟨rfl, rfl⟩ := h2
        exact ⟨rfl, rfl⟩
/-- what In's calls leave -/
def InI (b p : Nat) (s : ByteArray) (w : World) (r : Option ((Nat × Nat) × List UInt8)) (e : Ending) (w' : World) : Prop :=
  ∃ (a n : Nat) (st : Option (List UInt8)), e = .returned (.agg #[.int .i64 (a : Int), .int .i64 (n : Int)]) ∧ a ≤ 2199023255552 ∧ n ≤ 2199023255552 ∧ RdAt b s st p w' ∧ Fr [b] w w' ∧ IsO r (a, n) st
set_option maxRecDepth 100000 in
set_option maxHeartbeats 4000000 in
theorem iinst_any (b p : Nat) (s : ByteArray) (hs : s.size ≤ 1000000) (st : Option (List UInt8)) (w : World) (h : RdAt b s st p w) :
    Calls Tryz.prog 31 #[.agg #[.pointer (some ⟨b, 0, none⟩)]] w (InI b p s w (st.bind instR)) := by
  have h0 := h.below ((Below.refl _ _).alloc (Nat.le_refl _) (.cells #[.pointer (some ⟨b, 0, none⟩)] 93))
  have hgB : (w.alloc (.cells #[.pointer (some ⟨b, 0, none⟩)] 93)).heap[w.heap.size]? = some (.cells #[.pointer (some ⟨b, 0, none⟩)] 93 (0, 0)) := heap_alloc_new w _
  have hF0 := (Fr.refl [b] w).alloc (.cells #[.pointer (some ⟨b, 0, none⟩)] 93)
  have hnB : w.heap.size ∉ [b] := by have := h.lt; simp; omega
  have hbl := h.lt
  have hq1 := isO_out 0 (st.bind numR)
  have hq2 := isO_out 0 ((outR 0 (st.bind numR)).2.bind numR)
  have hn1 := numR_lt st
  have hn2 := numR_lt (outR 0 (st.bind numR)).2
  have hC1 := fun w h => inum_any b p s hs st w h
  have hC2 := fun w h => inum_any b p s hs (outR 0 (st.bind numR)).2 w h
  generalize outR 0 (st.bind numR) = q1 at *
  obtain ⟨a, st1⟩ := q1
  dsimp only at hq1 hq2 hn1 hn2 hC1 hC2
  generalize outR 0 (st1.bind numR) = q2 at *
  obtain ⟨n, st2⟩ := q2
  dsimp only at hq2 hn2 hC2
  have HI := Lib.hid (isO_inst hq1 hq2)
  have HC1 := Lib.hid hC1; have HC2 := Lib.hid hC2
  have hgP : ((w.alloc (.cells #[.pointer (some ⟨b, 0, none⟩)] 93)).alloc (.cells #[.int .i64 0, .int .i64 0] 50)).heap[w.heap.size + 1]? = some (.cells #[.int .i64 0, .int .i64 0] 50 (0, 0)) := by
    have := heap_alloc_new (w.alloc (.cells #[.pointer (some ⟨b, 0, none⟩)] 93)) (.cells #[.int .i64 0, .int .i64 0] 50)
    rwa [show (w.alloc (.cells #[.pointer (some ⟨b, 0, none⟩)] 93)).heap.size = w.heap.size + 1 by simp] at this
  have hgB' := (Lib.alloc_old (w.alloc (.cells #[.pointer (some ⟨b, 0, none⟩)] 93)) (.cells #[.int .i64 0, .int .i64 0] 50) w.heap.size (by simp)).trans hgB
  have h0' := h0.below ((Below.refl _ _).alloc (Nat.le_refl _) (.cells #[.int .i64 0, .int .i64 0] 50))
  have hF0' := hF0.alloc (.cells #[.int .i64 0, .int .i64 0] 50)
  have hnP : w.heap.size + 1 ∉ [b] := by simp; omega
  clear h h0 hgB hF0 hq1 hq2 hC1 hC2
  go_enter Tryz.func31, Tryz.ntmps31
  go_upto_region 1 with (fail)
  generalize (w.alloc (.cells #[.pointer (some ⟨b, 0, none⟩)] 93)).alloc (.cells #[.int .i64 0, .int .i64 0] 50) = W1 at *
  have x0 : W1.cell? ⟨w.heap.size, 0, none⟩ = some (.pointer (some ⟨b, 0, none⟩)) := by rw [Lib.cell_of_heap hgB']; rfl
  go_wp2_with fail
  refine (HC1.out _ h0').mono ?_; rintro e w2 ⟨rfl, h2, hf2⟩
  dsimp only at h2 ⊢
  have hgB2 := hf2.at hgB' hnB
  have hgP2 := hf2.at hgP hnP
  clear x0 hgP h0'
  have x0 : w2.cell? ⟨w.heap.size, 0, none⟩ = some (.pointer (some ⟨b, 0, none⟩)) := by rw [Lib.cell_of_heap hgB2]; rfl
  go_wp2_with fail
  refine (HC2.out _ h2).mono ?_; rintro e w3 ⟨rfl, h3, hf3⟩
  dsimp only at h3 ⊢
  have hgP3 := hf3.at hgP2 hnP
  have e0 : w3.cell? ⟨w.heap.size + 1, 0, none⟩ = some (.int .i64 0) := by rw [Lib.cell_of_heap hgP3]; rfl
  have e1 : w3.cell? ⟨w.heap.size + 1, 1, none⟩ = some (.int .i64 0) := by rw [Lib.cell_of_heap hgP3]; rfl
  have z0 : w3.frozen? ⟨w.heap.size + 1, 0, none⟩ = false := Lib.frozen_of_heap hgP3 0
  have z1 : w3.frozen? ⟨w.heap.size + 1, 1, none⟩ = false := Lib.frozen_of_heap hgP3 1
  go_wp2_with fail
  have hgF : ((w3.setCell ⟨w.heap.size + 1, 0, none⟩ (.int .i64 (a : Int))).setCell ⟨w.heap.size + 1, 1, none⟩ (.int .i64 (n : Int))).heap[w.heap.size + 1]? = some (.cells #[.int .i64 (a : Int), .int .i64 (n : Int)] 50 (0, 0)) := heap_setN (heap_setN hgP3 0 _) 1 _
  have FF := ((Fr.refl [w.heap.size + 1] w3).setCell ⟨w.heap.size + 1, 0, none⟩ (by simp) (.int .i64 (a : Int))).setCell ⟨w.heap.size + 1, 1, none⟩ (by simp) (.int .i64 (n : Int))
  clear e0 e1 z0 z1
  generalize (w3.setCell ⟨w.heap.size + 1, 0, none⟩ (.int .i64 (a : Int))).setCell ⟨w.heap.size + 1, 1, none⟩ (.int .i64 (n : Int)) = X at *
  have y0 : X.cell? ⟨w.heap.size + 1, 0, none⟩ = some (.int .i64 (a : Int)) := by rw [Lib.cell_of_heap hgF]; rfl
  have y1 : X.cell? ⟨w.heap.size + 1, 1, none⟩ = some (.int .i64 (n : Int)) := by rw [Lib.cell_of_heap hgF]; rfl
  have hrX := h3.kept FF (by simp; omega)
  have hff := ((((hF0'.trans hf2).trans hf3).mono (m := [b, w.heap.size + 1]) (by simp)).trans (FF.mono (m := [b, w.heap.size + 1]) (by simp))).fewer (by omega)
  refine bodyPost_ret (v := .agg #[.int .i64 (a : Int), .int .i64 (n : Int)]) (by simp [results, Tryz.results31, go_sem, y0, y1]) rfl ?_
  exact ⟨a, n, st2, rfl, hn1, hn2, hrX, hff, HI.out⟩
end
end Go.Proofs.YtnaamiecljinnaaGreat
