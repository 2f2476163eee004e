/-
  Ao, Ap, U9, Tw1, Bs7, Rw, Tw2 in one text.
-/
import Derived.Below
import Derived.BigQuiet
import Derived.ChangeArms
import Derived.DataReads
import Derived.Deep.AppendLies
import Derived.Deep.AppendSrc
import Derived.Deep.Cut
import Derived.Deep.DeepCutAuto
import Derived.Deep.MidRow
import Derived.Deep.QuietTactic
import Derived.Deep.RegionHeld3
import Derived.Deep.RegionWith
import Derived.Defers
import Derived.Handy
import Derived.IntWalk
import Derived.Laws.Bits64b
import Derived.Laws.FloatBits
import Derived.Lib.AtoiAll
import Derived.Lib.Builder
import Derived.Lib.Bytealg
import Derived.Lib.Bytes
import Derived.Lib.ConvBytes
import Derived.Lib.FrozenHead2
import Derived.Lib.Hide
import Derived.Lib.IndexMore
import Derived.Lib.ItoaNum
import Derived.Lib.MinMax
import Derived.Lib.OthersKept
import Derived.Lib.ParseIntB
import Derived.Lib.UnsafeStr
import Derived.LoopTactic
import Derived.OneCell
import Derived.OwnWalk
import Derived.Recover
import Derived.RegionTactic
import Derived.Shelf.Abstract
import Derived.SizedLaws
import Derived.StillTailTactics
import Derived.Tactics
import Derived.Tactics2
import Derived.Test.YthponidjednfbaaGreatDoorChecked
import Derived.Test.YthponidjednfbaaGreatDoorEv3
import Derived.WalkKit
import Derived.WalkLawsBesides
import Derived.WalkSpells
import Derived.WideShapes
import Ieee.Arith
import Derived.Test.YthponidjednfbaaGreatDoorS00
import Derived.Test.YthponidjednfbaaGreatDoorS01
import Derived.Test.YthponidjednfbaaGreatDoorS02
import Derived.Test.YthponidjednfbaaGreatDoorS03
import Derived.Test.YthponidjednfbaaGreatDoorS04
import Derived.Test.YthponidjednfbaaGreatDoorS05
namespace Go.Proofs.YthponidjednfbaaGreatDoor
section
open Go.RowKit
/-- what value.row finds -/
def rowV (a b : VT) : Int := if a.kind = 1 ∨ a.kind = 2 then sgnI a.num b.num else if a.kind = 3 then ordB a.flt b.flt else if a.kind = 4 then txtO a.str b.str else headO a b
theorem ordV_row {a b : VT} (h : a.kind = b.kind) : ordV a b = if rowV a b ≠ 0 ∨ (1 ≤ a.kind ∧ a.kind ≤ 4) then rowV a b else ordL a.items b.items := by
  by_cases h1 : a.kind = 1 ∨ a.kind = 2
  · rw [ordV_n h h1, if_pos (.inr (by omega))]; unfold rowV; rw [if_pos h1]
  · by_cases h3 : a.kind = 3
    · rw [ordV_f h h3, if_pos (.inr (by omega))]; unfold rowV; rw [if_neg h1, if_pos h3]
    · by_cases h4 : a.kind = 4
      · rw [ordV_s h h4, if_pos (.inr (by omega))]; unfold rowV; rw [if_neg h1, if_neg h3, if_pos h4]
      · have e : rowV a b = headO a b := by unfold rowV; rw [if_neg h1, if_neg h3, if_neg h4]
        rw [ordV_gen h (by omega) (by omega) h3 h4, e]
        by_cases h5 : headO a b = 0
        · rw [if_pos h5, if_neg (by omega)]
        · rw [if_neg h5, if_pos (.inl h5)]
set_option maxRecDepth 100000 in
set_option maxHeartbeats 8000000 in
theorem vrow_any (a b : VT) (H H' : Nat) (pn pi pn' pi' : Value) (w : World)
    (hA : w.heap[H]? = some (.cells #[.int .i64 a.kind, .int .i64 a.num, .float .f64 a.flt, .string ⟨a.str.toArray⟩, pn, pi] 34 (0, 0)))
    (hB : w.heap[H']? = some (.cells #[.int .i64 a.kind, .int .i64 b.num, .float .f64 b.flt, .string ⟨b.str.toArray⟩, pn', pi'] 34 (0, 0)))
    (hfa : F64 a.flt) (hfb : F64 b.flt) (hsa : Strs w a.names pn) (hsb : Strs w b.names pn') :
    Calls Tryz.prog 99 #[.pointer (some ⟨H, 0, none⟩), .pointer (some ⟨H', 0, none⟩)] w (Gives (.int .i64 (rowV a b)) w) := by
  have hr : rowV a b = if a.kind = 1 ∨ a.kind = 2 then sgnI a.num b.num else if a.kind = 3 then ordB a.flt b.flt else if a.kind = 4 then txtO a.str b.str else if a.kind = 5 then 0 else if a.kind = 6 then rowsO a.names b.names else (if sgnI a.num b.num = 0 then (if txtO a.str b.str = 0 then rowsO a.names b.names else txtO a.str b.str) else sgnI a.num b.num) := by
    unfold rowV
    split
    · rfl
    · split
      · rfl
      · split
        · rfl
        · unfold headO preO
          by_cases h5 : a.kind = 5
          · rw [if_pos h5, if_neg (fun h => h.2 h5), if_pos (.inl h5)]
          · rw [if_neg h5]
            by_cases h6 : a.kind = 6
            · simp [h6]
            · rw [if_neg h6, if_neg (show ¬ (a.kind = 5 ∨ a.kind = 6) by omega)]
              by_cases h7 : sgnI a.num b.num = 0
              · rw [if_pos h7, if_pos h7]
                by_cases h8 : txtO a.str b.str = 0
                · rw [if_pos ⟨h8, h5⟩, if_pos h8]
                · rw [if_neg (fun h => h8 h.1), if_neg h8]
              · rw [if_neg h7, if_neg h7, if_neg (fun h => h7 h.1)]
  have HBl := Lib.hid (fun x (h : Below w.heap.size w x) => (show x.heap[H]? = _ ∧ x.heap[H']? = _ from ⟨(h.block _ (lt_of_block hA)).trans hA, (h.block _ (lt_of_block hB)).trans hB⟩))
  have H1 := Lib.hid (fun w => cmpQ_int64 a.num b.num w)
  have H3 := Lib.hid (fun w => order_any a.flt b.flt hfa hfb w)
  have H4 := Lib.hid (fun w => (show Calls Tryz.prog 165 #[.string ⟨a.str.toArray⟩, .string ⟨b.str.toArray⟩] w (fun e w' => e = .returned (.int .i64 (txtO a.str b.str)) ∧ w = w') from by
    have := scompare_any ⟨a.str.toArray⟩ ⟨b.str.toArray⟩ w
    rwa [ByteArray.toList_eq, ByteArray.toList_eq] at this))
  have H6 := Lib.hid (fun x (h : Below w.heap.size w x) => srows_any a.names b.names pn pn' x (hsa.kept h) (hsb.kept h))
  clear hA hB hfa hfb hsa hsb
  generalize sgnI a.num b.num = o1 at *
  generalize ordB a.flt b.flt = o3 at *
  generalize txtO a.str b.str = o4 at *
  generalize rowsO a.names b.names = o6 at *
  generalize a.kind = K at *
  generalize a.num = X at *
  generalize b.num = X' at *
  generalize a.flt = fa at *
  generalize b.flt = fb at *
  generalize (⟨a.str.toArray⟩ : ByteArray) = S at *
  generalize (⟨b.str.toArray⟩ : ByteArray) = S' at *
  by_cases k1 : K = 1
  · subst k1
    rw [if_pos (.inl rfl)] at hr
    have HR := Lib.hid hr; clear hr
    have nA := (HBl.out _ (Below.refl _ _)).1; have nB := (HBl.out _ (Below.refl _ _)).2
    have a0 : w.cell? ⟨H, 0, none⟩ = some (.int .i64 1) := by rw [Lib.cell_of_heap nA]; rfl
    have b0 : w.cell? ⟨H', 0, none⟩ = some (.int .i64 1) := by rw [Lib.cell_of_heap nB]; rfl
    clear nA nB
    have nA := (HBl.out _ (Below.refl _ _)).1; have nB := (HBl.out _ (Below.refl _ _)).2
    have a1 : w.cell? ⟨H, 1, none⟩ = some (.int .i64 X) := by rw [Lib.cell_of_heap nA]; rfl
    have b1 : w.cell? ⟨H', 1, none⟩ = some (.int .i64 X') := by rw [Lib.cell_of_heap nB]; rfl
    clear nA nB
    go_enter Tryz.func99, Tryz.ntmps99
    go_wp2_with fail
    go_quiet (refine Calls.quiet_of_same ((H1.out _).mono fun _ _ h => ⟨h.1, h.2.symm⟩))
    go_wp2_with fail
    go_ret
    exact ⟨ret_val (by rw [HR.out]; rfl), ⟨rfl, rfl, rfl, Nat.le_refl _, fun _ _ => rfl⟩⟩
  · have n1 : (K == 1) = false := beq_eq_false_iff_ne.2 k1
    by_cases k2 : K = 2
    · subst k2
      rw [if_pos (.inr rfl)] at hr
      have HR := Lib.hid hr; clear hr k1
      have nA := (HBl.out _ (Below.refl _ _)).1; have nB := (HBl.out _ (Below.refl _ _)).2
      have a0 : w.cell? ⟨H, 0, none⟩ = some (.int .i64 2) := by rw [Lib.cell_of_heap nA]; rfl
      have b0 : w.cell? ⟨H', 0, none⟩ = some (.int .i64 2) := by rw [Lib.cell_of_heap nB]; rfl
      clear nA nB
      have nA := (HBl.out _ (Below.refl _ _)).1; have nB := (HBl.out _ (Below.refl _ _)).2
      have a1 : w.cell? ⟨H, 1, none⟩ = some (.int .i64 X) := by rw [Lib.cell_of_heap nA]; rfl
      have b1 : w.cell? ⟨H', 1, none⟩ = some (.int .i64 X') := by rw [Lib.cell_of_heap nB]; rfl
      clear nA nB
      go_enter Tryz.func99, Tryz.ntmps99
      go_wp2_with fail
      go_quiet (refine Calls.quiet_of_same ((H1.out _).mono fun _ _ h => ⟨h.1, h.2.symm⟩))
      go_wp2_with fail
      go_ret
      exact ⟨ret_val (by rw [HR.out]; rfl), ⟨rfl, rfl, rfl, Nat.le_refl _, fun _ _ => rfl⟩⟩
    · have n2 : (K == 2) = false := beq_eq_false_iff_ne.2 k2
      rw [if_neg (by omega)] at hr
      by_cases k3 : K = 3
      · subst k3
        rw [if_pos rfl] at hr
        have HR := Lib.hid hr; clear hr k1 k2
        have nA := (HBl.out _ (Below.refl _ _)).1; have nB := (HBl.out _ (Below.refl _ _)).2
        have a0 : w.cell? ⟨H, 0, none⟩ = some (.int .i64 3) := by rw [Lib.cell_of_heap nA]; rfl
        have b0 : w.cell? ⟨H', 0, none⟩ = some (.int .i64 3) := by rw [Lib.cell_of_heap nB]; rfl
        clear nA nB
        have nA := (HBl.out _ (Below.refl _ _)).1; have nB := (HBl.out _ (Below.refl _ _)).2
        have a2 : w.cell? ⟨H, 2, none⟩ = some (.float .f64 fa) := by rw [Lib.cell_of_heap nA]; rfl
        have b2 : w.cell? ⟨H', 2, none⟩ = some (.float .f64 fb) := by rw [Lib.cell_of_heap nB]; rfl
        clear nA nB
        go_enter Tryz.func99, Tryz.ntmps99
        go_wp2_with fail
        go_quiet (refine Calls.quiet_of_same ((H3.out _).mono fun _ _ h => ⟨h.1, h.2.symm⟩))
        go_wp2_with fail
        go_ret
        exact ⟨ret_val (by rw [HR.out]; rfl), ⟨rfl, rfl, rfl, Nat.le_refl _, fun _ _ => rfl⟩⟩
      · have n3 : (K == 3) = false := beq_eq_false_iff_ne.2 k3
        rw [if_neg k3] at hr
        by_cases k4 : K = 4
        · subst k4
          rw [if_pos rfl] at hr
          have HR := Lib.hid hr; clear hr k1 k2 k3
          have nA := (HBl.out _ (Below.refl _ _)).1; have nB := (HBl.out _ (Below.refl _ _)).2
          have a0 : w.cell? ⟨H, 0, none⟩ = some (.int .i64 4) := by rw [Lib.cell_of_heap nA]; rfl
          have b0 : w.cell? ⟨H', 0, none⟩ = some (.int .i64 4) := by rw [Lib.cell_of_heap nB]; rfl
          clear nA nB
          have nA := (HBl.out _ (Below.refl _ _)).1; have nB := (HBl.out _ (Below.refl _ _)).2
          have a3 : w.cell? ⟨H, 3, none⟩ = some (.string S) := by rw [Lib.cell_of_heap nA]; rfl
          have b3 : w.cell? ⟨H', 3, none⟩ = some (.string S') := by rw [Lib.cell_of_heap nB]; rfl
          clear nA nB
          go_enter Tryz.func99, Tryz.ntmps99
          go_wp2_with fail
          go_quiet (refine Calls.quiet_of_same ((H4.out _).mono fun _ _ h => ⟨h.1, h.2.symm⟩))
          go_wp2_with fail
          go_ret
          exact ⟨ret_val (by rw [HR.out]; rfl), ⟨rfl, rfl, rfl, Nat.le_refl _, fun _ _ => rfl⟩⟩
        · have n4 : (K == 4) = false := beq_eq_false_iff_ne.2 k4
          rw [if_neg k4] at hr
          by_cases k5 : K = 5
          · subst k5
            rw [if_pos rfl] at hr
            have HR := Lib.hid hr; clear hr k1 k2 k3 k4
            have nA := (HBl.out _ (Below.refl _ _)).1
            have a0 : w.cell? ⟨H, 0, none⟩ = some (.int .i64 5) := by rw [Lib.cell_of_heap nA]; rfl
            clear nA
            go_enter Tryz.func99, Tryz.ntmps99
            go_wp2_with fail
            go_ret
            exact ⟨ret_val (by rw [HR.out]; rfl), Below.refl _ _⟩
          · have n5 : (K == 5) = false := beq_eq_false_iff_ne.2 k5
            rw [if_neg k5] at hr
            by_cases k6 : K = 6
            · subst k6
              rw [if_pos rfl] at hr
              have HR := Lib.hid hr; clear hr k1 k2 k3 k4 k5
              have nA := (HBl.out _ (Below.refl _ _)).1; have nB := (HBl.out _ (Below.refl _ _)).2
              have a0 : w.cell? ⟨H, 0, none⟩ = some (.int .i64 6) := by rw [Lib.cell_of_heap nA]; rfl
              have b0 : w.cell? ⟨H', 0, none⟩ = some (.int .i64 6) := by rw [Lib.cell_of_heap nB]; rfl
              clear nA nB
              have nA := (HBl.out _ (Below.refl _ _)).1; have nB := (HBl.out _ (Below.refl _ _)).2
              have a4 : w.cell? ⟨H, 4, none⟩ = some (pn) := by rw [Lib.cell_of_heap nA]; rfl
              have b4 : w.cell? ⟨H', 4, none⟩ = some (pn') := by rw [Lib.cell_of_heap nB]; rfl
              clear nA nB
              go_enter Tryz.func99, Tryz.ntmps99
              go_wp2_with fail
              go_quiet (refine Calls.quiet_of_same ((H6.out (w.drewN _) ⟨rfl, rfl, rfl, Nat.le_refl _, fun _ _ => rfl⟩).mono fun _ _ h => ⟨h.1, h.2.symm⟩))
              go_wp2_with fail
              go_ret
              exact ⟨ret_val (by rw [HR.out]; rfl), ⟨rfl, rfl, rfl, Nat.le_refl _, fun _ _ => rfl⟩⟩
            · have n6 : (K == 6) = false := beq_eq_false_iff_ne.2 k6
              rw [if_neg k6] at hr
              have HO := Lib.hid (fun g w h0 h1 h2 => or3_any o1 o4 o6 g w h0 h1 h2)
              generalize (if o1 = 0 then (if o4 = 0 then o6 else o4) else o1) = r0 at hr HO
              have HR := Lib.hid hr; clear hr k1 k2 k3 k4 k5 k6
              have H1b := Lib.hid (fun w => (H1.out w).mono fun e w' h => (show e = .returned (.int .i64 o1) ∧ Below w.heap.size w w' from ⟨h.1, h.2 ▸ Below.refl _ _⟩))
              have H4b := Lib.hid (fun w => (H4.out w).mono fun e w' h => (show e = .returned (.int .i64 o4) ∧ Below w.heap.size w w' from ⟨h.1, h.2 ▸ Below.refl _ _⟩))
              have H6b := Lib.hid (fun x (hx : Below w.heap.size w x) => (H6.out x hx).mono fun e w' h => (show e = .returned (.int .i64 o6) ∧ Below x.heap.size x w' from ⟨h.1, h.2 ▸ Below.refl _ _⟩))
              have HK := Lib.hid (fun x (h : Below w.heap.size w x) => (show x.cell? ⟨H, 1, none⟩ = some (.int .i64 X) ∧ x.cell? ⟨H', 1, none⟩ = some (.int .i64 X') ∧ x.cell? ⟨H, 3, none⟩ = some (.string S) ∧ x.cell? ⟨H', 3, none⟩ = some (.string S') ∧ x.cell? ⟨H, 4, none⟩ = some (pn) ∧ x.cell? ⟨H', 4, none⟩ = some (pn') from by
                obtain ⟨nA, nB⟩ := HBl.out _ h
                exact ⟨by rw [Lib.cell_of_heap nA]; rfl, by rw [Lib.cell_of_heap nB]; rfl, by rw [Lib.cell_of_heap nA]; rfl, by rw [Lib.cell_of_heap nB]; rfl, by rw [Lib.cell_of_heap nA]; rfl, by rw [Lib.cell_of_heap nB]; rfl⟩))
              have hq0 := Below.refl w.heap.size w
              have nA := (HBl.out _ (Below.refl _ _)).1; have nB := (HBl.out _ (Below.refl _ _)).2
              have a0 : w.cell? ⟨H, 0, none⟩ = some (.int .i64 K) := by rw [Lib.cell_of_heap nA]; rfl
              have b0 : w.cell? ⟨H', 0, none⟩ = some (.int .i64 K) := by rw [Lib.cell_of_heap nB]; rfl
              have a1 : w.cell? ⟨H, 1, none⟩ = some (.int .i64 X) := by rw [Lib.cell_of_heap nA]; rfl
              have b1 : w.cell? ⟨H', 1, none⟩ = some (.int .i64 X') := by rw [Lib.cell_of_heap nB]; rfl
              have a3 : w.cell? ⟨H, 3, none⟩ = some (.string S) := by rw [Lib.cell_of_heap nA]; rfl
              have b3 : w.cell? ⟨H', 3, none⟩ = some (.string S') := by rw [Lib.cell_of_heap nB]; rfl
              have a4 : w.cell? ⟨H, 4, none⟩ = some (pn) := by rw [Lib.cell_of_heap nA]; rfl
              have b4 : w.cell? ⟨H', 4, none⟩ = some (pn') := by rw [Lib.cell_of_heap nB]; rfl
              clear nA nB
              go_enter Tryz.func99, Tryz.ntmps99
              go_wp2_with fail
              go_region_held3 (fun x => x.cell? ⟨H, 1, none⟩ = some (.int .i64 X) ∧ x.cell? ⟨H', 1, none⟩ = some (.int .i64 X') ∧ x.cell? ⟨H, 3, none⟩ = some (.string S) ∧ x.cell? ⟨H', 3, none⟩ = some (.string S') ∧ x.cell? ⟨H, 4, none⟩ = some (pn) ∧ x.cell? ⟨H', 4, none⟩ = some (pn')) (first | with_reducible exact HK.out _ hq0 | with_reducible exact HK.out _ hq0.drew | with_reducible exact HK.out _ hq1 | with_reducible exact HK.out _ hq2 | with_reducible exact HK.out _ hq3 | go_keep)
                (first
                  | (go_at_call 163; (with_reducible refine (H1b.out _).mono ?_); rintro e u1 ⟨rfl, hb1⟩; have hq1 := below_tr' hq0.drew hb1)
                  | (go_at_call 165; (with_reducible refine (H4b.out _).mono ?_); rintro e u2 ⟨rfl, hb2⟩; have hq2 := below_tr' hq1 hb2)
                  | (go_at_call 166; (with_reducible refine (H6b.out _ hq2).mono ?_); rintro e u3 ⟨rfl, hb3⟩; have hq3 := below_tr' hq2 hb3)
                  | (go_at_call 167; have z0 : (u3.alloc (.cells #[.int .i64 o1, .int .i64 o4, .int .i64 o6] 3)).cell? ⟨u3.heap.size, 0, none⟩ = some (.int .i64 o1) := (by rw [Lib.cell_of_heap (heap_alloc_new u3 _)]; simp); have z1 : (u3.alloc (.cells #[.int .i64 o1, .int .i64 o4, .int .i64 o6] 3)).cell? ⟨u3.heap.size, 1, none⟩ = some (.int .i64 o4) := (by rw [Lib.cell_of_heap (heap_alloc_new u3 _)]; simp); have z2 : (u3.alloc (.cells #[.int .i64 o1, .int .i64 o4, .int .i64 o6] 3)).cell? ⟨u3.heap.size, 2, none⟩ = some (.int .i64 o6) := (by rw [Lib.cell_of_heap (heap_alloc_new u3 _)]; simp); (with_reducible refine (HO.out _ _ z0 z1 z2).mono ?_); rintro e u4 ⟨rfl, rfl⟩))
              go_wp2_with fail
              go_ret
              exact ⟨ret_val (by rw [HR.out]; rfl), hq3.alloc hq3.size _⟩
end
section
open Go.RowKit
theorem enters_ord : ∀ args w, (callFunc 63 args).run Tryz.prog w = .ok (.enter 63 args) w := enters_of Tryz.func63 (by kernel_rfl) rfl
set_option maxRecDepth 100000 in
set_option maxHeartbeats 1000000 in
theorem vcmpf_any (d d2 : Nat) (its its' : List VT) (p p' : Option Addr) (cap cap' : Nat) (w : World)
    (ih : ∀ (d2 : Nat) (a b : VT) (ca cb : Array Value) (w : World), ValAt w d a ca → ValAt w d2 b cb → Calls Tryz.prog 63 #[.agg ca, .agg cb] w (Gives (.int .i64 (ordV a b)) w))
    (hN : its.length ≤ 140737488355328)
    (ha : ∀ i, i < its.length → ∃ g off, p = some ⟨g, off, none⟩ ∧ g < w.heap.size ∧ ∃ ds, ValAt w d (its.getD i noVT) ds ∧ ∀ j, j < 6 → w.cell? ⟨g, off + i * 6 + j, none⟩ = ds[j]?)
    (hb : ∀ i, i < its'.length → ∃ g off, p' = some ⟨g, off, none⟩ ∧ g < w.heap.size ∧ ∃ ds, ValAt w d2 (its'.getD i noVT) ds ∧ ∀ j, j < 6 → w.cell? ⟨g, off + i * 6 + j, none⟩ = ds[j]?) :
    Calls Tryz.prog 101 #[.slice p its.length cap, .slice p' its'.length cap', .func (.func 63) #[] #[]] w (Gives (.int .i64 (ordL its its')) w) := by
  have hsf : ∀ (a : Addr) (x : Nat) (m : Mode) (w : World), (store a (.float .f64 x) m).run Tryz.prog w = stored Tryz.prog w a (.float .f64 x) m := fun a x m w => run_store _ w a _ m rfl
  have hen := enters_ord
  have HIA := Lib.hid (fun i (hi : i < its.length) x (h : Below w.heap.size w x) => (show ∃ g off ds, p = some ⟨g, off, none⟩ ∧ ValAt x d (its.getD i noVT) ds ∧ x.cell? ⟨g, off + i * 6, none⟩ = ds[0]? ∧ x.cell? ⟨g, off + i * 6 + 1, none⟩ = ds[1]? ∧ x.cell? ⟨g, off + i * 6 + 2, none⟩ = ds[2]? ∧ x.cell? ⟨g, off + i * 6 + 3, none⟩ = ds[3]? ∧ x.cell? ⟨g, off + i * 6 + 4, none⟩ = ds[4]? ∧ x.cell? ⟨g, off + i * 6 + 5, none⟩ = ds[5]? from by
    obtain ⟨g, off, h1, h2, ds, h3, h4⟩ := ha i hi
    have hc := fun j (hj : j < 6) => (h.cell (p := ⟨g, off + i * 6 + j, none⟩) h2).trans (h4 j hj)
    exact ⟨g, off, ds, h1, h3.kept h, hc 0 (by omega), hc 1 (by omega), hc 2 (by omega), hc 3 (by omega), hc 4 (by omega), hc 5 (by omega)⟩))
  have HIB := Lib.hid (fun i (hi : i < its'.length) x (h : Below w.heap.size w x) => (show ∃ g off ds, p' = some ⟨g, off, none⟩ ∧ ValAt x d2 (its'.getD i noVT) ds ∧ x.cell? ⟨g, off + i * 6, none⟩ = ds[0]? ∧ x.cell? ⟨g, off + i * 6 + 1, none⟩ = ds[1]? ∧ x.cell? ⟨g, off + i * 6 + 2, none⟩ = ds[2]? ∧ x.cell? ⟨g, off + i * 6 + 3, none⟩ = ds[3]? ∧ x.cell? ⟨g, off + i * 6 + 4, none⟩ = ds[4]? ∧ x.cell? ⟨g, off + i * 6 + 5, none⟩ = ds[5]? from by
    obtain ⟨g, off, h1, h2, ds, h3, h4⟩ := hb i hi
    have hc := fun j (hj : j < 6) => (h.cell (p := ⟨g, off + i * 6 + j, none⟩) h2).trans (h4 j hj)
    exact ⟨g, off, ds, h1, h3.kept h, hc 0 (by omega), hc 1 (by omega), hc 2 (by omega), hc 3 (by omega), hc 4 (by omega), hc 5 (by omega)⟩))
  have HStep := Lib.hid (fun i (h1 : i < its.length) h2 => ordL_step (a := its) (b := its') (i := i) h1 h2)
  have HEnd := Lib.hid (fun i (h1 : i ≤ its.length) h2 h3 => ordL_end (a := its) (b := its') (i := i) h1 h2 h3)
  have h0 : Hid (ordL its its' = ordL (its.drop 0) (its'.drop 0)) := by show _ = _; rw [List.drop_zero, List.drop_zero]
  have IH := Lib.hid ih
  clear ha hb ih
  generalize its.length = N at *
  generalize its'.length = M at *
  generalize ordL its its' = R at *
  go_enter Tryz.func101, Tryz.ntmps101
  go_wp2_with fail
  go_loopw [13] (fun iv wr => ∃ i : Nat, iv = .int .i64 (i : Int) ∧ i ≤ N ∧ i ≤ M ∧ Hid (R = ordL (its.drop i) (its'.drop i)) ∧ Below w.heap.size w wr) (fun iv _ => N - (intOf iv).toNat)
  case atStart => exact ⟨0, rfl, Nat.zero_le _, Nat.zero_le _, h0, Below.refl _ _⟩
  case round =>
    clear h0
    obtain ⟨i, rfl, hi, hj, hR, hbr⟩ := hrel
    by_cases hlt : i < N
    · have t0 : decide ((i : Int) < (N : Int)) = true := by simp; omega
      obtain ⟨g, off, ds, rfl, hva, x0, x1, x2, x3, x4, x5⟩ := HIA.out i hlt wr hbr
      obtain ⟨va, hva0⟩ : ∃ va, its.getD i noVT = va := ⟨_, rfl⟩
      rw [hva0] at hva
      have HVa := Lib.hid hva0; clear hva0
      obtain ⟨q1, r1, s1, v1, rfl⟩ := hva.sixS
      simp at x0 x1 x2 x3 x4 x5
      have b1 : (0 : Int) ≤ (i : Int) := by omega
      have b2 : (i : Int) < (N : Int) := by omega
      have HVA := Lib.hid hva; clear hva
      go_upto_region 4 with (fail)
      have hg1 := heap_alloc_new wr (.cells #[.int .i64 va.kind, .int .i64 va.num, .float .f64 va.flt, .string ⟨va.str.toArray⟩, .slice q1 va.names.length r1, .slice s1 va.items.length v1] 34)
      have hA1 : Below wr.heap.size wr (wr.alloc (.cells #[.int .i64 va.kind, .int .i64 va.num, .float .f64 va.flt, .string ⟨va.str.toArray⟩, .slice q1 va.names.length r1, .slice s1 va.items.length v1] 34)) := (Below.refl _ _).alloc (Nat.le_refl _) _
      generalize wr.alloc (.cells #[.int .i64 va.kind, .int .i64 va.num, .float .f64 va.flt, .string ⟨va.str.toArray⟩, .slice q1 va.names.length r1, .slice s1 va.items.length v1] 34) = W1 at *
      clear x0 x1 x2 x3 x4 x5
      have hb1 := below_tr' hbr hA1
      have HVA1 := Lib.hid (HVA.out.kept hA1)
      clear hA1 HVA
      generalize wr.heap.size = H1 at *
      by_cases hlm : i < M
      · have t1 : decide ((M : Int) ≤ (i : Int)) = false := by simp; omega
        have hst := HStep.out i hlt hlm
        rw [HVa.out] at hst
        obtain ⟨g', off', ds', rfl, hvb, y0, y1, y2, y3, y4, y5⟩ := HIB.out i hlm W1 hb1
        generalize its'.getD i noVT = vb at *
        have HST := Lib.hid hst; clear hst
        obtain ⟨q2, r2, s2, v2, rfl⟩ := hvb.sixS
        simp at y0 y1 y2 y3 y4 y5
        have b3 : (i : Int) < (M : Int) := by omega
        have HVB := Lib.hid hvb; clear hvb
        go_upto_region 7 with (fail)
        have hg2 := heap_alloc_new W1 (.cells #[.int .i64 vb.kind, .int .i64 vb.num, .float .f64 vb.flt, .string ⟨vb.str.toArray⟩, .slice q2 vb.names.length r2, .slice s2 vb.items.length v2] 34)
        have hA2 : Below W1.heap.size W1 (W1.alloc (.cells #[.int .i64 vb.kind, .int .i64 vb.num, .float .f64 vb.flt, .string ⟨vb.str.toArray⟩, .slice q2 vb.names.length r2, .slice s2 vb.items.length v2] 34)) := (Below.refl _ _).alloc (Nat.le_refl _) _
        generalize W1.alloc (.cells #[.int .i64 vb.kind, .int .i64 vb.num, .float .f64 vb.flt, .string ⟨vb.str.toArray⟩, .slice q2 vb.names.length r2, .slice s2 vb.items.length v2] 34) = W2 at *
        clear y0 y1 y2 y3 y4 y5
        have hb2 := below_tr' hb1 hA2
        replace hg1 := (hA2.block _ (lt_of_block hg1)).trans hg1
        have HQ := Lib.hid (IH.out d2 _ _ _ _ W2 (HVA1.out.kept hA2) (HVB.out.kept hA2))
        clear HVA1 HVB hA2
        generalize W1.heap.size = H2 at *
        have a0 : W2.cell? ⟨H1, 0, none⟩ = some (.int .i64 va.kind) := by rw [Lib.cell_of_heap hg1]; rfl
        have a1 : W2.cell? ⟨H1, 1, none⟩ = some (.int .i64 va.num) := by rw [Lib.cell_of_heap hg1]; rfl
        have a2 : W2.cell? ⟨H1, 2, none⟩ = some (.float .f64 va.flt) := by rw [Lib.cell_of_heap hg1]; rfl
        have a3 : W2.cell? ⟨H1, 3, none⟩ = some (.string ⟨va.str.toArray⟩) := by rw [Lib.cell_of_heap hg1]; rfl
        have a4 : W2.cell? ⟨H1, 4, none⟩ = some (.slice q1 va.names.length r1) := by rw [Lib.cell_of_heap hg1]; rfl
        have a5 : W2.cell? ⟨H1, 5, none⟩ = some (.slice s1 va.items.length v1) := by rw [Lib.cell_of_heap hg1]; rfl
        have c0 : W2.cell? ⟨H2, 0, none⟩ = some (.int .i64 vb.kind) := by rw [Lib.cell_of_heap hg2]; rfl
        have c1 : W2.cell? ⟨H2, 1, none⟩ = some (.int .i64 vb.num) := by rw [Lib.cell_of_heap hg2]; rfl
        have c2 : W2.cell? ⟨H2, 2, none⟩ = some (.float .f64 vb.flt) := by rw [Lib.cell_of_heap hg2]; rfl
        have c3 : W2.cell? ⟨H2, 3, none⟩ = some (.string ⟨vb.str.toArray⟩) := by rw [Lib.cell_of_heap hg2]; rfl
        have c4 : W2.cell? ⟨H2, 4, none⟩ = some (.slice q2 vb.names.length r2) := by rw [Lib.cell_of_heap hg2]; rfl
        have c5 : W2.cell? ⟨H2, 5, none⟩ = some (.slice s2 vb.items.length v2) := by rw [Lib.cell_of_heap hg2]; rfl
        clear hg1 hg2
        generalize ordV va vb = c' at *
        by_cases hc : c' = 0
        · have HST2 := Lib.hid (HST.out.trans (if_pos hc))
          subst hc
          go_wp2_with fail
          refine (HQ.out).mono ?_; rintro e w3 ⟨rfl, hb3⟩
          go_wp2_with fail
          go_roundw
          case rel => exact ⟨i + 1, by go_num, by omega, by omega, by show _ = _; rw [hR.out, HST2.out], below_tr' hb2 hb3⟩
          case measure => simp [intOf]; omega
        · have HST2 := Lib.hid (HST.out.trans (if_neg hc))
          have tc : (c' != 0) = true := by rw [bne_iff_ne]; exact hc
          clear hc
          go_wp2_with fail
          refine (HQ.out).mono ?_; rintro e w3 ⟨rfl, hb3⟩
          go_wp2_with fail
          go_ret
          exact ⟨ret_val (by rw [hR.out, HST2.out]; rfl), below_tr' hb2 hb3⟩
      · have t1 : decide ((M : Int) ≤ (i : Int)) = true := by simp; omega
        have HE := Lib.hid (HEnd.out i hi hj (.inr (by omega)))
        have HS := Lib.hid (show sgnI (N : Int) (M : Int) = 1 from by unfold sgnI; rw [if_neg (by omega), if_pos (by omega)])
        go_wp2_with fail
        go_ret
        exact ⟨ret_val (by rw [hR.out, HE.out, HS.out]; rfl), hb1⟩
    · have t0 : decide ((i : Int) < (N : Int)) = false := by simp; omega
      have HE := Lib.hid (HEnd.out i hi hj (.inl (by omega)))
      by_cases hlm : N < M
      · have t1 : decide ((N : Int) < (M : Int)) = true := by simp; omega
        have HS := Lib.hid (show sgnI (N : Int) (M : Int) = -1 from by unfold sgnI; rw [if_pos (by omega)])
        go_wp2_with fail
        go_ret
        exact ⟨ret_val (by rw [hR.out, HE.out, HS.out]; rfl), hbr⟩
      · have t1 : decide ((N : Int) < (M : Int)) = false := by simp; omega
        have HS := Lib.hid (show sgnI (N : Int) (M : Int) = 0 from by unfold sgnI; rw [if_neg (by omega), if_neg (by omega)])
        go_wp2_with fail
        go_ret
        exact ⟨ret_val (by rw [hR.out, HE.out, HS.out]; rfl), hbr⟩
set_option maxRecDepth 100000 in
set_option maxHeartbeats 1000000 in
theorem vOrder_step (d d2 : Nat) (a b : VT) (ca cb : Array Value) (w : World)
    (ih : ∀ (d2 : Nat) (a b : VT) (ca cb : Array Value) (w : World), ValAt w d a ca → ValAt w d2 b cb → Calls Tryz.prog 63 #[.agg ca, .agg cb] w (Gives (.int .i64 (ordV a b)) w))
    (ha : ValAt w (d + 1) a ca) (hb : ValAt w (d2 + 1) b cb) : Calls Tryz.prog 63 #[.agg ca, .agg cb] w (Gives (.int .i64 (ordV a b)) w) := by
  obtain ⟨pp, pc, p, cap, hca⟩ := ha.sixS
  obtain ⟨pp', pc', p', cap', hcb⟩ := hb.sixS
  have hia := ha.boxes hca
  have hib := hb.boxes hcb
  obtain ⟨hsa, hfa, hNb⟩ := ha.strs hca
  obtain ⟨hsb, hfb, _⟩ := hb.strs hcb
  subst hca; subst hcb
  clear ha hb
  have HCmp := Lib.hid (fun w => cmpQ_int a.kind b.kind w)
  have hA0 : Below w.heap.size w (w.alloc (.cells #[.int .i64 a.kind, .int .i64 a.num, .float .f64 a.flt, .string ⟨a.str.toArray⟩, .slice pp a.names.length pc, .slice p a.items.length cap] 34)) := (Below.refl _ _).alloc (Nat.le_refl _) _
  have hA1 := heap_alloc_new w (.cells #[.int .i64 a.kind, .int .i64 a.num, .float .f64 a.flt, .string ⟨a.str.toArray⟩, .slice pp a.names.length pc, .slice p a.items.length cap] 34)
  have hz1 : (w.alloc (.cells #[.int .i64 a.kind, .int .i64 a.num, .float .f64 a.flt, .string ⟨a.str.toArray⟩, .slice pp a.names.length pc, .slice p a.items.length cap] 34)).heap.size = w.heap.size + 1 := by simp
  go_enter Tryz.func63, Tryz.ntmps63
  go_upto_region 1 with (fail)
  generalize w.alloc (.cells #[.int .i64 a.kind, .int .i64 a.num, .float .f64 a.flt, .string ⟨a.str.toArray⟩, .slice pp a.names.length pc, .slice p a.items.length cap] 34) = V at *
  have hB0 : Below V.heap.size V (V.alloc (.cells #[.int .i64 b.kind, .int .i64 b.num, .float .f64 b.flt, .string ⟨b.str.toArray⟩, .slice pp' b.names.length pc', .slice p' b.items.length cap'] 34)) := (Below.refl _ _).alloc (Nat.le_refl _) _
  have hB1 := heap_alloc_new V (.cells #[.int .i64 b.kind, .int .i64 b.num, .float .f64 b.flt, .string ⟨b.str.toArray⟩, .slice pp' b.names.length pc', .slice p' b.items.length cap'] 34)
  have hA1 := (hB0.block _ (lt_of_block hA1)).trans hA1
  have hB := below_tr' hA0 hB0
  try rw [hz1] at hB1
  generalize V.alloc (.cells #[.int .i64 b.kind, .int .i64 b.num, .float .f64 b.flt, .string ⟨b.str.toArray⟩, .slice pp' b.names.length pc', .slice p' b.items.length cap'] 34) = W at *
  clear hA0 hB0 hz1
  have hiaW : ∀ i, i < a.items.length → ∃ g off, p = some ⟨g, off, none⟩ ∧ g < W.heap.size ∧ ∃ ds, ValAt W d (a.items.getD i noVT) ds ∧ ∀ j, j < 6 → W.cell? ⟨g, off + i * 6 + j, none⟩ = ds[j]? := fun i hi => by
    obtain ⟨g, off, h1, h2, ds, h3, h4⟩ := hia i hi
    exact ⟨g, off, h1, Nat.lt_of_lt_of_le h2 hB.size, ds, h3.kept hB, fun j hj => (hB.cell (p := ⟨g, off + i * 6 + j, none⟩) h2).trans (h4 j hj)⟩
  have hibW : ∀ i, i < b.items.length → ∃ g off, p' = some ⟨g, off, none⟩ ∧ g < W.heap.size ∧ ∃ ds, ValAt W d2 (b.items.getD i noVT) ds ∧ ∀ j, j < 6 → W.cell? ⟨g, off + i * 6 + j, none⟩ = ds[j]? := fun i hi => by
    obtain ⟨g, off, h1, h2, ds, h3, h4⟩ := hib i hi
    exact ⟨g, off, h1, Nat.lt_of_lt_of_le h2 hB.size, ds, h3.kept hB, fun j hj => (hB.cell (p := ⟨g, off + i * 6 + j, none⟩) h2).trans (h4 j hj)⟩
  replace hsa := hsa.kept hB
  replace hsb := hsb.kept hB
  clear hia hib
  generalize hH : w.heap.size = H at *
  have HH := Lib.hid hH; clear hH
  have a0 : W.cell? ⟨H, 0, none⟩ = some (.int .i64 a.kind) := by rw [Lib.cell_of_heap hA1]; rfl
  have b0 : W.cell? ⟨H + 1, 0, none⟩ = some (.int .i64 b.kind) := by rw [Lib.cell_of_heap hB1]; rfl
  by_cases hk : a.kind = b.kind
  · have hro := ordV_row hk
    have HRow := Lib.hid (vrow_any a b H (H + 1) _ _ _ _ W hA1 (by rw [hk]; exact hB1) hfa hfb hsa hsb)
    have HCF := Lib.hid (fun x (hx : Below W.heap.size W x) => vcmpf_any d d2 a.items b.items p p' cap cap' x ih hNb
      (fun i hi => by
        obtain ⟨g, off, h1, h2, ds, h3, h4⟩ := hiaW i hi
        exact ⟨g, off, h1, Nat.lt_of_lt_of_le h2 hx.size, ds, h3.kept hx, fun j hj => (hx.cell (p := ⟨g, off + i * 6 + j, none⟩) h2).trans (h4 j hj)⟩)
      (fun i hi => by
        obtain ⟨g, off, h1, h2, ds, h3, h4⟩ := hibW i hi
        exact ⟨g, off, h1, Nat.lt_of_lt_of_le h2 hx.size, ds, h3.kept hx, fun j hj => (hx.cell (p := ⟨g, off + i * 6 + j, none⟩) h2).trans (h4 j hj)⟩))
    have HBl := Lib.hid (fun x (hx : Below W.heap.size W x) => (show x.cell? ⟨H, 0, none⟩ = some (.int .i64 a.kind) ∧ x.cell? ⟨H, 5, none⟩ = some (.slice p a.items.length cap) ∧ x.cell? ⟨H + 1, 5, none⟩ = some (.slice p' b.items.length cap') from
      ⟨by rw [Lib.cell_of_heap ((hx.block _ (lt_of_block hA1)).trans hA1)]; rfl, by rw [Lib.cell_of_heap ((hx.block _ (lt_of_block hA1)).trans hA1)]; rfl, by rw [Lib.cell_of_heap ((hx.block _ (lt_of_block hB1)).trans hB1)]; rfl⟩))
    have HLy := Lib.hid (fun h w => leaf_yes a.kind h w); have HLn := Lib.hid (fun h w => leaf_no a.kind h w)
    have hcm : sgnI a.kind b.kind = 0 := by rw [hk]; exact sgnI_self _
    rw [hcm] at HCmp
    have HRO := Lib.hid hro
    clear hro hcm hiaW hibW hsa hsb hfa hfb hNb hA1 hB1 ih
    rw [← hk] at b0
    generalize ordV a b = R at *
    generalize rowV a b = c at *
    generalize ordL a.items b.items = L at *
    generalize a.items.length = N at *
    generalize b.items.length = M at *
    have HKK := Lib.hid hk
    rw [← hk] at HCmp
    generalize a.kind = K at *
    clear hk
    by_cases hc : c = 0
    · subst hc
      by_cases hl : 1 ≤ K ∧ K ≤ 4
      · have HRO := Lib.hid (HRO.out.trans (if_pos (.inr hl)))
        have HL := Lib.hid (fun w => HLy.out hl w)
        clear hl
        go_wp2_with fail
        refine (HCmp.out _).mono ?_; rintro e w1 ⟨rfl, rfl⟩
        go_wp2_with fail
        refine (HRow.out).mono ?_; rintro e w2 ⟨rfl, hb2⟩
        obtain ⟨e0, _, _⟩ := HBl.out _ hb2
        go_wp2_with fail
        refine (HL.out _).mono ?_; rintro e w3 ⟨rfl, rfl⟩
        go_wp2_with fail
        go_ret
        exact ⟨ret_val (by rw [HRO.out]; rfl), HH.out ▸ below_tr' (HH.out ▸ hB) hb2⟩
      · have HRO := Lib.hid (HRO.out.trans (if_neg (by omega)))
        have HL := Lib.hid (fun w => HLn.out hl w)
        clear hl
        go_wp2_with fail
        refine (HCmp.out _).mono ?_; rintro e w1 ⟨rfl, rfl⟩
        go_wp2_with fail
        refine (HRow.out).mono ?_; rintro e w2 ⟨rfl, hb2⟩
        obtain ⟨e0, e5, f5⟩ := HBl.out _ hb2
        have HC2 := Lib.hid (HCF.out _ hb2)
        go_wp2_with fail
        refine (HL.out _).mono ?_; rintro e w3 ⟨rfl, rfl⟩
        go_wp2_with fail
        refine (HC2.out).mono ?_; rintro e w4 ⟨rfl, hb4⟩
        go_wp2_with fail
        go_ret
        exact ⟨ret_val (by rw [HRO.out]; rfl), HH.out ▸ below_tr' (below_tr' (HH.out ▸ hB) hb2) hb4⟩
    · have HRO := Lib.hid (HRO.out.trans (if_pos (.inl hc)))
      have tc : (c != 0) = true := by rw [bne_iff_ne]; exact hc
      clear hc
      go_wp2_with fail
      refine (HCmp.out _).mono ?_; rintro e w1 ⟨rfl, rfl⟩
      go_wp2_with fail
      refine (HRow.out).mono ?_; rintro e w2 ⟨rfl, hb2⟩
      go_wp2_with fail
      go_ret
      exact ⟨ret_val (by rw [HRO.out]; rfl), HH.out ▸ below_tr' (HH.out ▸ hB) hb2⟩
  · have hro := ordV_ne hk
    have hne : sgnI a.kind b.kind ≠ 0 := by unfold sgnI; split <;> (try split) <;> omega
    have HRO := Lib.hid hro
    clear hro hiaW hibW hsa hsb hfa hfb hNb hA1 hB1 ih
    generalize ordV a b = R at *
    generalize sgnI a.kind b.kind = c at *
    have tc : (c != 0) = true := by rw [bne_iff_ne]; exact hne
    clear hne
    go_wp2_with fail
    refine (HCmp.out _).mono ?_; rintro e w1 ⟨rfl, rfl⟩
    go_wp2_with fail
    go_ret
    exact ⟨ret_val (by rw [HRO.out]; rfl), HH.out ▸ hB⟩
theorem vOrder_any : ∀ (d d2 : Nat) (a b : VT) (ca cb : Array Value) (w : World), ValAt w d a ca → ValAt w d2 b cb → Calls Tryz.prog 63 #[.agg ca, .agg cb] w (Gives (.int .i64 (ordV a b)) w)
  | 0, _, _, _, _, _, _, h, _ => h.elim
  | _ + 1, 0, _, _, _, _, _, _, h => h.elim
  | d + 1, d2 + 1, a, b, ca, cb, w, ha, hb => vOrder_step d d2 a b ca cb w (fun d2 a b ca cb w h1 h2 => vOrder_any d d2 a b ca cb w h1 h2) ha hb
set_option maxRecDepth 100000 in
set_option maxHeartbeats 1000000 in
theorem vSame_any (d d2 : Nat) (a b : VT) (ca cb : Array Value) (w : World) (ha : ValAt w d a ca) (hb : ValAt w d2 b cb) : Calls Tryz.prog 35 #[.agg ca, .agg cb] w (Gives (.bool (sameV a b)) w) := by
  have hA0 : Below w.heap.size w (w.alloc (.cells ca 34)) := (Below.refl _ _).alloc (Nat.le_refl _) _
  have hA1 := heap_alloc_new w (.cells ca 34)
  have hO := vOrder_any d d2 a b ca cb
  obtain ⟨pp, pc, p, cap, hca⟩ := ha.sixS
  obtain ⟨pp', pc', p', cap', hcb⟩ := hb.sixS
  subst hca; subst hcb
  have hz1 : (w.alloc (.cells #[.int .i64 a.kind, .int .i64 a.num, .float .f64 a.flt, .string ⟨a.str.toArray⟩, .slice pp a.names.length pc, .slice p a.items.length cap] 34)).heap.size = w.heap.size + 1 := by simp
  have ha := ha.kept hA0
  have hb := hb.kept hA0
  have hs : sameV a b = decide (ordV a b = 0) := rfl
  go_enter Tryz.func35, Tryz.ntmps35
  go_upto_region 1 with (fail)
  generalize w.alloc (.cells #[.int .i64 a.kind, .int .i64 a.num, .float .f64 a.flt, .string ⟨a.str.toArray⟩, .slice pp a.names.length pc, .slice p a.items.length cap] 34) = V at *
  have hB0 : Below V.heap.size V (V.alloc (.cells #[.int .i64 b.kind, .int .i64 b.num, .float .f64 b.flt, .string ⟨b.str.toArray⟩, .slice pp' b.names.length pc', .slice p' b.items.length cap'] 34)) := (Below.refl _ _).alloc (Nat.le_refl _) _
  have hB1 := heap_alloc_new V (.cells #[.int .i64 b.kind, .int .i64 b.num, .float .f64 b.flt, .string ⟨b.str.toArray⟩, .slice pp' b.names.length pc', .slice p' b.items.length cap'] 34)
  have hA1 := (hB0.block _ (lt_of_block hA1)).trans hA1
  have hB := below_tr' hA0 hB0
  have HOO := Lib.hid (hO _ (ha.kept hB0) (hb.kept hB0))
  try rw [hz1] at hB1
  generalize V.alloc (.cells #[.int .i64 b.kind, .int .i64 b.num, .float .f64 b.flt, .string ⟨b.str.toArray⟩, .slice pp' b.names.length pc', .slice p' b.items.length cap'] 34) = W at *
  clear hA0 hB0 hz1 hO ha hb
  generalize hH : w.heap.size = H at *
  have HH := Lib.hid hH; clear hH
  have a0 : W.cell? ⟨H, 0, none⟩ = some (.int .i64 a.kind) := by rw [Lib.cell_of_heap hA1]; rfl
  have a1 : W.cell? ⟨H, 1, none⟩ = some (.int .i64 a.num) := by rw [Lib.cell_of_heap hA1]; rfl
  have a2 : W.cell? ⟨H, 2, none⟩ = some (.float .f64 a.flt) := by rw [Lib.cell_of_heap hA1]; rfl
  have a3 : W.cell? ⟨H, 3, none⟩ = some (.string ⟨a.str.toArray⟩) := by rw [Lib.cell_of_heap hA1]; rfl
  have a4 : W.cell? ⟨H, 4, none⟩ = some (.slice pp a.names.length pc) := by rw [Lib.cell_of_heap hA1]; rfl
  have a5 : W.cell? ⟨H, 5, none⟩ = some (.slice p a.items.length cap) := by rw [Lib.cell_of_heap hA1]; rfl
  have b0 : W.cell? ⟨H + 1, 0, none⟩ = some (.int .i64 b.kind) := by rw [Lib.cell_of_heap hB1]; rfl
  have b1 : W.cell? ⟨H + 1, 1, none⟩ = some (.int .i64 b.num) := by rw [Lib.cell_of_heap hB1]; rfl
  have b2 : W.cell? ⟨H + 1, 2, none⟩ = some (.float .f64 b.flt) := by rw [Lib.cell_of_heap hB1]; rfl
  have b3 : W.cell? ⟨H + 1, 3, none⟩ = some (.string ⟨b.str.toArray⟩) := by rw [Lib.cell_of_heap hB1]; rfl
  have b4 : W.cell? ⟨H + 1, 4, none⟩ = some (.slice pp' b.names.length pc') := by rw [Lib.cell_of_heap hB1]; rfl
  have b5 : W.cell? ⟨H + 1, 5, none⟩ = some (.slice p' b.items.length cap') := by rw [Lib.cell_of_heap hB1]; rfl
  have HS := Lib.hid hs; clear hs hA1 hB1
  generalize ordV a b = c at *
  generalize sameV a b = r at *
  by_cases hc : c = 0
  · subst hc
    go_wp2_with fail
    refine (HOO.out).mono ?_; rintro e w1 ⟨rfl, hb1⟩
    go_wp2_with fail
    go_ret
    exact ⟨ret_val (by rw [HS.out]; rfl), HH.out ▸ below_tr' (HH.out ▸ hB) hb1⟩
  · have tc : (c == 0) = false := beq_eq_false_iff_ne.2 hc
    have HS := Lib.hid (HS.out.trans (decide_eq_false hc))
    clear hc
    go_wp2_with fail
    refine (HOO.out).mono ?_; rintro e w1 ⟨rfl, hb1⟩
    go_wp2_with fail
    go_ret
    exact ⟨ret_val (by rw [HS.out]; rfl), HH.out ▸ below_tr' (HH.out ▸ hB) hb1⟩
end
section
open Go
mutual
theorem ordV_same : ∀ (a b : VT), canV a = canV b → ordV a b = 0
  | .mk k n f s ns its, .mk k' n' f' s' ns' its', h => by
    rw [canV, canV] at h
    simp only [VT.mk.injEq] at h
    obtain ⟨rfl, rfl, hf, rfl, rfl, hi⟩ := h
    have hl := ordL_same its its' hi
    rw [ordV, if_pos rfl, sgnI_self, txtO_self, rowsO_self, if_pos rfl, if_pos rfl, if_pos rfl, hl, ordB_can hf]
    repeat' split
    all_goals rfl
theorem ordL_same : ∀ (l m : List VT), canL l = canL m → ordL l m = 0
  | [], [], _ => by rw [ordL]; rfl
  | [], y :: m, h => by rw [canL, canL] at h; cases h
  | x :: l, [], h => by rw [canL, canL] at h; cases h
  | x :: l, y :: m, h => by
    rw [canL, canL] at h
    simp only [List.cons.injEq] at h
    rw [ordL, ordV_same x y h.1, if_pos rfl]
    exact ordL_same l m h.2
end
theorem sameV_can {a b : VT} (h : canV a = canV b) : sameV a b = true := by
  unfold sameV; rw [ordV_same a b h]; rfl
end
section
open Go.RowKit
/-- an event -/
structure EvT where
  label : Int
  kind : Int
  node : Int
  n : Int
  a : Int
  b : Int
  v : VT
  err : Int
def EvIn (S : Nat → Prop) (w : World) (d : Nat) (x : EvT) (ds : Array Value) : Prop := ∃ pp pc p cap, ds = #[.int .i64 x.label, .int .i64 x.kind, .int .i64 x.node, .int .i64 x.n, .int .i64 x.a, .int .i64 x.b, .int .i64 x.v.kind, .int .i64 x.v.num, .float .f64 x.v.flt, .string ⟨x.v.str.toArray⟩, .slice pp x.v.names.length pc, .slice p x.v.items.length cap, .int .i64 x.err] ∧ ValIn S w d x.v #[.int .i64 x.v.kind, .int .i64 x.v.num, .float .f64 x.v.flt, .string ⟨x.v.str.toArray⟩, .slice pp x.v.names.length pc, .slice p x.v.items.length cap]
def evK (d : Nat) : ItemK EvT 13 where
  at_ S w x ds := EvIn S w d x ds
  size h := by obtain ⟨_, _, _, _, rfl, _⟩ := h; rfl
  kept hs hk h := by
    obtain ⟨pp, pc, p, cap, h1, h2⟩ := h
    exact ⟨pp, pc, p, cap, h1, h2.kept hs hk⟩
/-- a list of events, behind a slice that lies in one cell's place -/
def entK (d : Nat) : ItemK (List EvT) 1 where
  at_ S w x ds := ∃ v, ds = #[v] ∧ SlG (evK d) S w v x
  size h := by obtain ⟨_, rfl, _⟩ := h; rfl
  kept hs hk h := by
    obtain ⟨v, h1, h2⟩ := h
    exact ⟨v, h1, h2.kept hs hk⟩
def sameEv (x y : EvT) : Bool := decide (x.label = y.label) && (decide (x.kind = y.kind) && (decide (x.node = y.node) && (decide (x.n = y.n) && (decide (x.a = y.a ∧ x.b = y.b) && (decide (x.err = y.err) && sameV x.v y.v)))))
def sameEs : List EvT → List EvT → Bool
  | [], [] => true
  | x :: l, y :: m => sameEv x y && sameEs l m
  | _, _ => false
/-- the first entry that differs, from number i on -/
def cmpV : Nat → List (List EvT) → List (List EvT) → Int × Bool
  | _, [], [] => (0, true)
  | i, x :: l, y :: m => if sameEs x y then cmpV (i + 1) l m else ((i : Int), false)
  | i, _, _ => ((i : Int), false)
theorem sameEv_self (x : EvT) : sameEv x x = true := by
  unfold sameEv
  simp [sameV_can rfl]
theorem sameEs_self : ∀ l, sameEs l l = true
  | [] => rfl
  | x :: l => by rw [sameEs, sameEv_self, sameEs_self l]; rfl
theorem cmpV_self : ∀ i l, cmpV i l l = (0, true)
  | i, [] => rfl
  | i, x :: l => by rw [cmpV, sameEs_self, if_pos rfl]; exact cmpV_self (i + 1) l
theorem sameEs_len : ∀ {a b : List EvT}, a.length ≠ b.length → sameEs a b = false
  | [], [], h => absurd rfl h
  | [], _ :: _, _ => rfl
  | _ :: _, [], _ => rfl
  | x :: a, y :: b, h => by rw [sameEs, sameEs_len (a := a) (b := b) (fun e => h (by simp [e]))]; simp
theorem sameEs_step {a b : List EvT} {i : Nat} {x y : EvT} (hx : a[i]? = some x) (hy : b[i]? = some y) : sameEs (a.drop i) (b.drop i) = (sameEv x y && sameEs (a.drop (i + 1)) (b.drop (i + 1))) := by
  obtain ⟨h1, e1⟩ := List.getElem?_eq_some_iff.1 hx
  obtain ⟨h2, e2⟩ := List.getElem?_eq_some_iff.1 hy
  rw [List.drop_eq_getElem_cons h1, List.drop_eq_getElem_cons h2, e1, e2, sameEs]
theorem sameEs_end {a b : List EvT} {i : Nat} (h1 : a.length ≤ i) (h2 : b.length ≤ i) : sameEs (a.drop i) (b.drop i) = true := by
  rw [List.drop_eq_nil_of_le h1, List.drop_eq_nil_of_le h2, sameEs]
theorem cmpV_step {a b : List (List EvT)} {i : Nat} {x y : List EvT} (hx : a[i]? = some x) (hy : b[i]? = some y) (h : sameEs x y = true) : cmpV i (a.drop i) (b.drop i) = cmpV (i + 1) (a.drop (i + 1)) (b.drop (i + 1)) := by
  obtain ⟨h1, e1⟩ := List.getElem?_eq_some_iff.1 hx
  obtain ⟨h2, e2⟩ := List.getElem?_eq_some_iff.1 hy
  rw [List.drop_eq_getElem_cons h1, List.drop_eq_getElem_cons h2, e1, e2, cmpV, if_pos h]
theorem cmpV_no {a b : List (List EvT)} {i : Nat} {x y : List EvT} (hx : a[i]? = some x) (hy : b[i]? = some y) (h : sameEs x y = false) : cmpV i (a.drop i) (b.drop i) = ((i : Int), false) := by
  obtain ⟨h1, e1⟩ := List.getElem?_eq_some_iff.1 hx
  obtain ⟨h2, e2⟩ := List.getElem?_eq_some_iff.1 hy
  rw [List.drop_eq_getElem_cons h1, List.drop_eq_getElem_cons h2, e1, e2, cmpV, if_neg (by rw [h]; simp)]
theorem cmpV_nc (i : Nat) (y : List EvT) (m : List (List EvT)) : cmpV i [] (y :: m) = ((i : Int), false) := by simp [cmpV]
theorem cmpV_cn (i : Nat) (y : List EvT) (m : List (List EvT)) : cmpV i (y :: m) [] = ((i : Int), false) := by simp [cmpV]
theorem cmpV_short {a b : List (List EvT)} {i : Nat} (h : (a.length ≤ i ∧ i < b.length) ∨ (i < a.length ∧ b.length ≤ i)) : cmpV i (a.drop i) (b.drop i) = ((i : Int), false) := by
  rcases h with ⟨h1, h2⟩ | ⟨h1, h2⟩
  · rw [List.drop_eq_nil_of_le h1, List.drop_eq_getElem_cons h2, cmpV_nc]
  · rw [List.drop_eq_nil_of_le h2, List.drop_eq_getElem_cons h1, cmpV_cn]
theorem cmpV_end {a b : List (List EvT)} {i : Nat} (h1 : a.length ≤ i) (h2 : b.length ≤ i) : cmpV i (a.drop i) (b.drop i) = (0, true) := by
  rw [List.drop_eq_nil_of_le h1, List.drop_eq_nil_of_le h2, cmpV]
end
section
open Go.RowKit
section
variable {P : Program} {ops : Array Oper} {rest : List Oper} {o : Oper} {a : Act} {Q : Exit → Act → World → Prop} {w w' : World} {v : Value}
theorem oper_rown {K : Act → World → Prop} {t : TypeId} {ad x : Operand} (ho : o.op = .store t ad x) (hd : o.dst = none) {b n : Nat} {T : TypeId} {cs l : Array Value} (ea : a.eval ad = .pointer (some ⟨b, 0, none⟩)) (ex : (a.eval x).cells = l)
    (ht : Ev.sizeOf P t = some n) (hb : w.heap[b]? = some (.cells cs T (0, 0))) (hl : l.size = n) (hc : cs.size = n) (h1 : ∀ u ∈ l.toList, u.oneCell' = true)
    (h : ∀ w', w'.heap[b]? = some (.cells l T (0, 0)) → Fr [b] w w' → K a w') : o.wp P a w K Q := by
    have hrun := run_storeCells_at (P := P) b 0 T l.toList 0 cs w hb (by simp; omega) h1
    simp only [Nat.add_zero] at hrun
    have hsz : (a.eval x).cells.size = n := by rw [ex]; exact hl
    have hcl : (a.eval x).cells.toList = l.toList := by rw [ex]
    unfold Oper.wp
    have hr : (execOp a.eval o).run P w = .ok .skip (w.setRow b (cs.toList.take 0 ++ l.toList ++ cs.toList.drop (0 + l.toList.length)).toArray) := by
      unfold execOp
      simp only [ho, ea, Instr.storeAt, Instr.sureAddr, Sem.run_bind, Sem.run_pure, Result.andThen_ok, storeVar, Ev.run_sizeOf ht, hsz, hcl, ne_eq, not_true_eq_false, if_false, hrun]
    have e : (cs.toList.take 0 ++ l.toList ++ cs.toList.drop (0 + l.toList.length)).toArray = l := by
      rw [List.drop_eq_nil_of_le (by simp; omega)]; simp
    rw [e] at hr
    rw [hr]
    have hput : a.put o.dst undef = a := by rw [hd]; rfl
    have := h (w.setRow b l) (setRow_heap w b cs _ T _ hb) ⟨rfl, rfl, rfl, by simp, fun k _ hk => setRow_other w b k _ (by simpa using hk)⟩
    rw [← hput] at this
    exact this
theorem wpList_rown (hg : o.guard = none) {t : TypeId} {ad x : Operand} (ho : o.op = .store t ad x) (hd : o.dst = none) {b n : Nat} {T : TypeId} {cs l : Array Value} (ea : a.eval ad = .pointer (some ⟨b, 0, none⟩)) (ex : (a.eval x).cells = l)
    (ht : Ev.sizeOf P t = some n) (hb : w.heap[b]? = some (.cells cs T (0, 0))) (hl : l.size = n) (hc : cs.size = n) (h1 : ∀ u ∈ l.toList, u.oneCell' = true)
    (h : ∀ w', w'.heap[b]? = some (.cells l T (0, 0)) → Fr [b] w w' → wpList P ops Q rest a w') : wpList P ops Q (o :: rest) a w :=
  wpList_plain hg fun _ hK => oper_rown ho hd ea ex ht hb hl hc h1 fun w' k1 k2 => hK a w' (h w' k1 k2)
end
end
section
open Go.RowKit
section
variable {P : Program} {ops : Array Oper} {rest : List Oper} {o : Oper} {a : Act} {Q : Exit → Act → World → Prop} {w w' : World} {v : Value} {t : TypeId} {b n : Nat} {T : TypeId} {cs : Array Value} {z : Nat × Nat} {ad : Operand}
theorem run_loadRow (ha : Ev.isAgg P t = some true) (hs : Ev.sizeOf P t = some n) (hb : w.heap[b]? = some (.cells cs T z)) (hn : cs.size = n) : (loadVar t ⟨b, 0, none⟩).run P w = .ok (.agg cs) w := by
  have hrun := run_loadCells_list (P := P) w ⟨b, 0, none⟩ cs.toList fun j u hu => by
    rw [Ev.add_off, Ev.cell_row hb, Nat.zero_add]; simpa using hu
  have hl : cs.toList.length = n := by simpa using hn
  rw [hl] at hrun
  unfold loadVar
  simp only [Sem.run_bind, Ev.run_isAgg ha, Result.andThen_ok, if_true, Ev.run_sizeOf hs, hrun, Sem.run_pure]
theorem exec_loadRow {ρ : Operand → Value} (ho : o.op = .load t ad) (ea : ρ ad = .pointer (some ⟨b, 0, none⟩)) (ha : Ev.isAgg P t = some true) (hs : Ev.sizeOf P t = some n) (hb : w.heap[b]? = some (.cells cs T z)) (hn : cs.size = n) : (execOp ρ o).run P w = .ok (.value (.agg cs)) w := by
  unfold execOp
  simp only [ho, ea, Instr.loadAt, Instr.sureAddr, Sem.run_bind, Sem.run_pure, Result.andThen_ok, run_loadRow ha hs hb hn]
theorem wpList_loadG (ho : o.op = .load t ad) (hw : Region.wanted o (yielded ops a.tmps) = true) (ea : a.eval ad = .pointer (some ⟨b, 0, none⟩)) (ha : Ev.isAgg P t = some true) (hs : Ev.sizeOf P t = some n) (hb : w.heap[b]? = some (.cells cs T z)) (hn : cs.size = n)
    (h : wpList P ops Q rest (a.put o.dst (.agg cs)) w) : wpList P ops Q (o :: rest) a w := by
  show (if _ then _ else _)
  rw [if_pos hw]
  refine .inl ?_
  unfold Oper.wp
  rw [exec_loadRow ho ea ha hs hb hn]
  exact h
/-- a row out of cells that are known -/
theorem wpList_loadR {off : Nat} {l : List Value} (ho : o.op = .load t ad) (hw : Region.wanted o (yielded ops a.tmps) = true) (ea : a.eval ad = .pointer (some ⟨b, off, none⟩)) (ha : Ev.isAgg P t = some true) (hs : Ev.sizeOf P t = some n) (hr : w.rangeAt b off l) (hn : l.length = n)
    (h : wpList P ops Q rest (a.put o.dst (.agg l.toArray)) w) : wpList P ops Q (o :: rest) a w := by
  have hrun := run_loadCells_list (P := P) w ⟨b, off, none⟩ l fun j u hu => by
    rw [Ev.add_off]; exact hr j u hu
  rw [hn] at hrun
  have he : (execOp a.eval o).run P w = .ok (.value (.agg l.toArray)) w := by
    unfold execOp
    simp only [ho, ea, Instr.loadAt, Instr.sureAddr, Sem.run_bind, Sem.run_pure, Result.andThen_ok, loadVar, Ev.run_isAgg ha, if_true, Ev.run_sizeOf hs, hrun]
  show (if _ then _ else _)
  rw [if_pos hw]
  refine .inl ?_
  unfold Oper.wp
  rw [he]
  exact h
theorem range_row {w : World} {b : Nat} {cs : Array Value} {T : TypeId} {z : Nat × Nat} (hb : w.heap[b]? = some (.cells cs T z)) {off : Nat} {l : List Value} (hl : (cs.toList.drop off).take l.length = l) : w.rangeAt b off l := fun j v hv => by
  rw [Ev.cell_row hb]
  have hj : j < l.length := (List.getElem?_eq_some_iff.1 hv).1
  rw [← hl, List.getElem?_take_of_lt hj, List.getElem?_drop] at hv
  simpa using hv
end
end
section
open Go.RowKit
set_option maxRecDepth 100000 in
set_option maxHeartbeats 2000000 in
theorem tSame_any (d d2 : Nat) (x y : EvT) (cs ds : Array Value) (w : World) (hx : EvIn (fun _ => True) w d x cs) (hy : EvIn (fun _ => True) w d2 y ds) : Calls Tryz.prog 15 #[.agg cs, .agg ds] w (Gives (.bool (sameEv x y)) w) := by
  obtain ⟨pp1, pc1, p1, cap1, rfl, hx⟩ := hx
  obtain ⟨pp2, pc2, p2, cap2, rfl, hy⟩ := hy
  replace hx := ValIn.at hx
  replace hy := ValIn.at hy
  go_enter Tryz.func15, Tryz.ntmps15
  go_upto_region 1 with (fail)
  have hA1 : Below w.heap.size w (w.alloc (.cells #[.int .i64 x.label, .int .i64 x.kind, .int .i64 x.node, .int .i64 x.n, .int .i64 x.a, .int .i64 x.b, .int .i64 x.v.kind, .int .i64 x.v.num, .float .f64 x.v.flt, .string ⟨x.v.str.toArray⟩, .slice pp1 x.v.names.length pc1, .slice p1 x.v.items.length cap1, .int .i64 x.err] 37)) := (Below.refl _ _).alloc (Nat.le_refl _) _
  have hA2 : Below w.heap.size w ((w.alloc (.cells #[.int .i64 x.label, .int .i64 x.kind, .int .i64 x.node, .int .i64 x.n, .int .i64 x.a, .int .i64 x.b, .int .i64 x.v.kind, .int .i64 x.v.num, .float .f64 x.v.flt, .string ⟨x.v.str.toArray⟩, .slice pp1 x.v.names.length pc1, .slice p1 x.v.items.length cap1, .int .i64 x.err] 37)).alloc (.cells #[.int .i64 y.label, .int .i64 y.kind, .int .i64 y.node, .int .i64 y.n, .int .i64 y.a, .int .i64 y.b, .int .i64 y.v.kind, .int .i64 y.v.num, .float .f64 y.v.flt, .string ⟨y.v.str.toArray⟩, .slice pp2 y.v.names.length pc2, .slice p2 y.v.items.length cap2, .int .i64 y.err] 37)) := hA1.alloc hA1.size _
  have hg2 := heap_alloc_new (w.alloc (.cells #[.int .i64 x.label, .int .i64 x.kind, .int .i64 x.node, .int .i64 x.n, .int .i64 x.a, .int .i64 x.b, .int .i64 x.v.kind, .int .i64 x.v.num, .float .f64 x.v.flt, .string ⟨x.v.str.toArray⟩, .slice pp1 x.v.names.length pc1, .slice p1 x.v.items.length cap1, .int .i64 x.err] 37)) (.cells #[.int .i64 y.label, .int .i64 y.kind, .int .i64 y.node, .int .i64 y.n, .int .i64 y.a, .int .i64 y.b, .int .i64 y.v.kind, .int .i64 y.v.num, .float .f64 y.v.flt, .string ⟨y.v.str.toArray⟩, .slice pp2 y.v.names.length pc2, .slice p2 y.v.items.length cap2, .int .i64 y.err] 37)
  rw [show (w.alloc (.cells #[.int .i64 x.label, .int .i64 x.kind, .int .i64 x.node, .int .i64 x.n, .int .i64 x.a, .int .i64 x.b, .int .i64 x.v.kind, .int .i64 x.v.num, .float .f64 x.v.flt, .string ⟨x.v.str.toArray⟩, .slice pp1 x.v.names.length pc1, .slice p1 x.v.items.length cap1, .int .i64 x.err] 37)).heap.size = w.heap.size + 1 by simp] at hg2
  have hg1 := (Below.heap_alloc (w.alloc (.cells #[.int .i64 x.label, .int .i64 x.kind, .int .i64 x.node, .int .i64 x.n, .int .i64 x.a, .int .i64 x.b, .int .i64 x.v.kind, .int .i64 x.v.num, .float .f64 x.v.flt, .string ⟨x.v.str.toArray⟩, .slice pp1 x.v.names.length pc1, .slice p1 x.v.items.length cap1, .int .i64 x.err] 37)) (.cells #[.int .i64 y.label, .int .i64 y.kind, .int .i64 y.node, .int .i64 y.n, .int .i64 y.a, .int .i64 y.b, .int .i64 y.v.kind, .int .i64 y.v.num, .float .f64 y.v.flt, .string ⟨y.v.str.toArray⟩, .slice pp2 y.v.names.length pc2, .slice p2 y.v.items.length cap2, .int .i64 y.err] 37) _ (lt_of_block (heap_alloc_new w (.cells #[.int .i64 x.label, .int .i64 x.kind, .int .i64 x.node, .int .i64 x.n, .int .i64 x.a, .int .i64 x.b, .int .i64 x.v.kind, .int .i64 x.v.num, .float .f64 x.v.flt, .string ⟨x.v.str.toArray⟩, .slice pp1 x.v.names.length pc1, .slice p1 x.v.items.length cap1, .int .i64 x.err] 37)))).trans (heap_alloc_new w (.cells #[.int .i64 x.label, .int .i64 x.kind, .int .i64 x.node, .int .i64 x.n, .int .i64 x.a, .int .i64 x.b, .int .i64 x.v.kind, .int .i64 x.v.num, .float .f64 x.v.flt, .string ⟨x.v.str.toArray⟩, .slice pp1 x.v.names.length pc1, .slice p1 x.v.items.length cap1, .int .i64 x.err] 37))
  have hB := Lib.hid hA2
  have HS := Lib.hid (vSame_any d d2 x.v y.v _ _ _ (hx.kept hA2) (hy.kept hA2))
  clear hA1 hA2 hx hy
  generalize (w.alloc (.cells #[.int .i64 x.label, .int .i64 x.kind, .int .i64 x.node, .int .i64 x.n, .int .i64 x.a, .int .i64 x.b, .int .i64 x.v.kind, .int .i64 x.v.num, .float .f64 x.v.flt, .string ⟨x.v.str.toArray⟩, .slice pp1 x.v.names.length pc1, .slice p1 x.v.items.length cap1, .int .i64 x.err] 37)).alloc (.cells #[.int .i64 y.label, .int .i64 y.kind, .int .i64 y.node, .int .i64 y.n, .int .i64 y.a, .int .i64 y.b, .int .i64 y.v.kind, .int .i64 y.v.num, .float .f64 y.v.flt, .string ⟨y.v.str.toArray⟩, .slice pp2 y.v.names.length pc2, .slice p2 y.v.items.length cap2, .int .i64 y.err] 37) = W at *
  have a0 : W.cell? ⟨w.heap.size, 0, none⟩ = some (.int .i64 x.label) := by rw [Lib.cell_of_heap hg1]; rfl
  have a1 : W.cell? ⟨w.heap.size, 1, none⟩ = some (.int .i64 x.kind) := by rw [Lib.cell_of_heap hg1]; rfl
  have a2 : W.cell? ⟨w.heap.size, 2, none⟩ = some (.int .i64 x.node) := by rw [Lib.cell_of_heap hg1]; rfl
  have a3 : W.cell? ⟨w.heap.size, 3, none⟩ = some (.int .i64 x.n) := by rw [Lib.cell_of_heap hg1]; rfl
  have a4 : W.cell? ⟨w.heap.size, 4, none⟩ = some (.int .i64 x.a) := by rw [Lib.cell_of_heap hg1]; rfl
  have a5 : W.cell? ⟨w.heap.size, 5, none⟩ = some (.int .i64 x.b) := by rw [Lib.cell_of_heap hg1]; rfl
  have a6 : W.cell? ⟨w.heap.size, 6, none⟩ = some (.int .i64 x.v.kind) := by rw [Lib.cell_of_heap hg1]; rfl
  have a7 : W.cell? ⟨w.heap.size, 7, none⟩ = some (.int .i64 x.v.num) := by rw [Lib.cell_of_heap hg1]; rfl
  have a8 : W.cell? ⟨w.heap.size, 8, none⟩ = some (.float .f64 x.v.flt) := by rw [Lib.cell_of_heap hg1]; rfl
  have a9 : W.cell? ⟨w.heap.size, 9, none⟩ = some (.string ⟨x.v.str.toArray⟩) := by rw [Lib.cell_of_heap hg1]; rfl
  have a10 : W.cell? ⟨w.heap.size, 10, none⟩ = some (.slice pp1 x.v.names.length pc1) := by rw [Lib.cell_of_heap hg1]; rfl
  have a11 : W.cell? ⟨w.heap.size, 11, none⟩ = some (.slice p1 x.v.items.length cap1) := by rw [Lib.cell_of_heap hg1]; rfl
  have a12 : W.cell? ⟨w.heap.size, 12, none⟩ = some (.int .i64 x.err) := by rw [Lib.cell_of_heap hg1]; rfl
  have c0 : W.cell? ⟨w.heap.size + 1, 0, none⟩ = some (.int .i64 y.label) := by rw [Lib.cell_of_heap hg2]; rfl
  have c1 : W.cell? ⟨w.heap.size + 1, 1, none⟩ = some (.int .i64 y.kind) := by rw [Lib.cell_of_heap hg2]; rfl
  have c2 : W.cell? ⟨w.heap.size + 1, 2, none⟩ = some (.int .i64 y.node) := by rw [Lib.cell_of_heap hg2]; rfl
  have c3 : W.cell? ⟨w.heap.size + 1, 3, none⟩ = some (.int .i64 y.n) := by rw [Lib.cell_of_heap hg2]; rfl
  have c4 : W.cell? ⟨w.heap.size + 1, 4, none⟩ = some (.int .i64 y.a) := by rw [Lib.cell_of_heap hg2]; rfl
  have c5 : W.cell? ⟨w.heap.size + 1, 5, none⟩ = some (.int .i64 y.b) := by rw [Lib.cell_of_heap hg2]; rfl
  have c6 : W.cell? ⟨w.heap.size + 1, 6, none⟩ = some (.int .i64 y.v.kind) := by rw [Lib.cell_of_heap hg2]; rfl
  have c7 : W.cell? ⟨w.heap.size + 1, 7, none⟩ = some (.int .i64 y.v.num) := by rw [Lib.cell_of_heap hg2]; rfl
  have c8 : W.cell? ⟨w.heap.size + 1, 8, none⟩ = some (.float .f64 y.v.flt) := by rw [Lib.cell_of_heap hg2]; rfl
  have c9 : W.cell? ⟨w.heap.size + 1, 9, none⟩ = some (.string ⟨y.v.str.toArray⟩) := by rw [Lib.cell_of_heap hg2]; rfl
  have c10 : W.cell? ⟨w.heap.size + 1, 10, none⟩ = some (.slice pp2 y.v.names.length pc2) := by rw [Lib.cell_of_heap hg2]; rfl
  have c11 : W.cell? ⟨w.heap.size + 1, 11, none⟩ = some (.slice p2 y.v.items.length cap2) := by rw [Lib.cell_of_heap hg2]; rfl
  have c12 : W.cell? ⟨w.heap.size + 1, 12, none⟩ = some (.int .i64 y.err) := by rw [Lib.cell_of_heap hg2]; rfl
  clear hg1 hg2
  by_cases h_label : x.label = y.label
  case neg =>
    have t_label : (x.label == y.label) = false := by simpa using h_label
    clear HS
    go_wp2_with fail
    go_ret
    exact ⟨ret_val (by simp [sameEv, h_label]), hB.out⟩
  have t_label : (x.label == y.label) = true := by simpa using h_label
  by_cases h_kind : x.kind = y.kind
  case neg =>
    have t_kind : (x.kind == y.kind) = false := by simpa using h_kind
    clear HS
    go_wp2_with fail
    go_ret
    exact ⟨ret_val (by simp [sameEv, h_label, h_kind]), hB.out⟩
  have t_kind : (x.kind == y.kind) = true := by simpa using h_kind
  by_cases h_node : x.node = y.node
  case neg =>
    have t_node : (x.node == y.node) = false := by simpa using h_node
    clear HS
    go_wp2_with fail
    go_ret
    exact ⟨ret_val (by simp [sameEv, h_label, h_kind, h_node]), hB.out⟩
  have t_node : (x.node == y.node) = true := by simpa using h_node
  by_cases h_n : x.n = y.n
  case neg =>
    have t_n : (x.n == y.n) = false := by simpa using h_n
    clear HS
    go_wp2_with fail
    go_ret
    exact ⟨ret_val (by simp [sameEv, h_label, h_kind, h_node, h_n]), hB.out⟩
  have t_n : (x.n == y.n) = true := by simpa using h_n
  by_cases h_a : x.a = y.a
  case neg =>
    have t_a : (x.a == y.a) = false := by simpa using h_a
    clear HS
    go_wp2_with fail
    go_ret
    exact ⟨ret_val (by simp [sameEv, h_label, h_kind, h_node, h_n, h_a]), hB.out⟩
  have t_a : (x.a == y.a) = true := by simpa using h_a
  by_cases h_b : x.b = y.b
  case neg =>
    have t_b : (x.b == y.b) = false := by simpa using h_b
    clear HS
    go_wp2_with fail
    go_ret
    exact ⟨ret_val (by simp [sameEv, h_label, h_kind, h_node, h_n, h_a, h_b]), hB.out⟩
  have t_b : (x.b == y.b) = true := by simpa using h_b
  by_cases h_err : x.err = y.err
  case neg =>
    have t_err : (x.err == y.err) = false := by simpa using h_err
    clear HS
    go_wp2_with fail
    go_ret
    exact ⟨ret_val (by simp [sameEv, h_label, h_kind, h_node, h_n, h_a, h_b, h_err]), hB.out⟩
  have t_err : (x.err == y.err) = true := by simpa using h_err
  go_wp2_with fail
  refine (HS.out).mono ?_; rintro e w3 ⟨rfl, hb3⟩
  go_wp2_with fail
  go_ret
  exact ⟨ret_val (by simp [sameEv, h_label, h_kind, h_node, h_n, h_a, h_b, h_err]), hB.out.trans (hb3.mono hB.out.size)⟩
set_option maxRecDepth 100000 in
set_option maxHeartbeats 2000000 in
theorem rSameEv_any (d d2 : Nat) (x y : EvT) (cs ds : Array Value) (w : World) (hx : EvIn (fun _ => True) w d x cs) (hy : EvIn (fun _ => True) w d2 y ds) : Calls Tryz.prog 36 #[.agg cs, .agg ds] w (Gives (.bool (sameEv x y)) w) := by
  obtain ⟨pp1, pc1, p1, cap1, rfl, hx⟩ := hx
  obtain ⟨pp2, pc2, p2, cap2, rfl, hy⟩ := hy
  replace hx := ValIn.at hx
  replace hy := ValIn.at hy
  go_enter Tryz.func36, Tryz.ntmps36
  go_upto_region 1 with (fail)
  have hA1 : Below w.heap.size w (w.alloc (.cells #[.int .i64 x.label, .int .i64 x.kind, .int .i64 x.node, .int .i64 x.n, .int .i64 x.a, .int .i64 x.b, .int .i64 x.v.kind, .int .i64 x.v.num, .float .f64 x.v.flt, .string ⟨x.v.str.toArray⟩, .slice pp1 x.v.names.length pc1, .slice p1 x.v.items.length cap1, .int .i64 x.err] 37)) := (Below.refl _ _).alloc (Nat.le_refl _) _
  have hA2 : Below w.heap.size w ((w.alloc (.cells #[.int .i64 x.label, .int .i64 x.kind, .int .i64 x.node, .int .i64 x.n, .int .i64 x.a, .int .i64 x.b, .int .i64 x.v.kind, .int .i64 x.v.num, .float .f64 x.v.flt, .string ⟨x.v.str.toArray⟩, .slice pp1 x.v.names.length pc1, .slice p1 x.v.items.length cap1, .int .i64 x.err] 37)).alloc (.cells #[.int .i64 y.label, .int .i64 y.kind, .int .i64 y.node, .int .i64 y.n, .int .i64 y.a, .int .i64 y.b, .int .i64 y.v.kind, .int .i64 y.v.num, .float .f64 y.v.flt, .string ⟨y.v.str.toArray⟩, .slice pp2 y.v.names.length pc2, .slice p2 y.v.items.length cap2, .int .i64 y.err] 37)) := hA1.alloc hA1.size _
  have hg2 := heap_alloc_new (w.alloc (.cells #[.int .i64 x.label, .int .i64 x.kind, .int .i64 x.node, .int .i64 x.n, .int .i64 x.a, .int .i64 x.b, .int .i64 x.v.kind, .int .i64 x.v.num, .float .f64 x.v.flt, .string ⟨x.v.str.toArray⟩, .slice pp1 x.v.names.length pc1, .slice p1 x.v.items.length cap1, .int .i64 x.err] 37)) (.cells #[.int .i64 y.label, .int .i64 y.kind, .int .i64 y.node, .int .i64 y.n, .int .i64 y.a, .int .i64 y.b, .int .i64 y.v.kind, .int .i64 y.v.num, .float .f64 y.v.flt, .string ⟨y.v.str.toArray⟩, .slice pp2 y.v.names.length pc2, .slice p2 y.v.items.length cap2, .int .i64 y.err] 37)
  rw [show (w.alloc (.cells #[.int .i64 x.label, .int .i64 x.kind, .int .i64 x.node, .int .i64 x.n, .int .i64 x.a, .int .i64 x.b, .int .i64 x.v.kind, .int .i64 x.v.num, .float .f64 x.v.flt, .string ⟨x.v.str.toArray⟩, .slice pp1 x.v.names.length pc1, .slice p1 x.v.items.length cap1, .int .i64 x.err] 37)).heap.size = w.heap.size + 1 by simp] at hg2
  have hg1 := (Below.heap_alloc (w.alloc (.cells #[.int .i64 x.label, .int .i64 x.kind, .int .i64 x.node, .int .i64 x.n, .int .i64 x.a, .int .i64 x.b, .int .i64 x.v.kind, .int .i64 x.v.num, .float .f64 x.v.flt, .string ⟨x.v.str.toArray⟩, .slice pp1 x.v.names.length pc1, .slice p1 x.v.items.length cap1, .int .i64 x.err] 37)) (.cells #[.int .i64 y.label, .int .i64 y.kind, .int .i64 y.node, .int .i64 y.n, .int .i64 y.a, .int .i64 y.b, .int .i64 y.v.kind, .int .i64 y.v.num, .float .f64 y.v.flt, .string ⟨y.v.str.toArray⟩, .slice pp2 y.v.names.length pc2, .slice p2 y.v.items.length cap2, .int .i64 y.err] 37) _ (lt_of_block (heap_alloc_new w (.cells #[.int .i64 x.label, .int .i64 x.kind, .int .i64 x.node, .int .i64 x.n, .int .i64 x.a, .int .i64 x.b, .int .i64 x.v.kind, .int .i64 x.v.num, .float .f64 x.v.flt, .string ⟨x.v.str.toArray⟩, .slice pp1 x.v.names.length pc1, .slice p1 x.v.items.length cap1, .int .i64 x.err] 37)))).trans (heap_alloc_new w (.cells #[.int .i64 x.label, .int .i64 x.kind, .int .i64 x.node, .int .i64 x.n, .int .i64 x.a, .int .i64 x.b, .int .i64 x.v.kind, .int .i64 x.v.num, .float .f64 x.v.flt, .string ⟨x.v.str.toArray⟩, .slice pp1 x.v.names.length pc1, .slice p1 x.v.items.length cap1, .int .i64 x.err] 37))
  have hB := Lib.hid hA2
  have HS := Lib.hid (rSame_any d d2 x.v y.v _ _ _ (hx.kept hA2) (hy.kept hA2))
  clear hA1 hA2 hx hy
  generalize (w.alloc (.cells #[.int .i64 x.label, .int .i64 x.kind, .int .i64 x.node, .int .i64 x.n, .int .i64 x.a, .int .i64 x.b, .int .i64 x.v.kind, .int .i64 x.v.num, .float .f64 x.v.flt, .string ⟨x.v.str.toArray⟩, .slice pp1 x.v.names.length pc1, .slice p1 x.v.items.length cap1, .int .i64 x.err] 37)).alloc (.cells #[.int .i64 y.label, .int .i64 y.kind, .int .i64 y.node, .int .i64 y.n, .int .i64 y.a, .int .i64 y.b, .int .i64 y.v.kind, .int .i64 y.v.num, .float .f64 y.v.flt, .string ⟨y.v.str.toArray⟩, .slice pp2 y.v.names.length pc2, .slice p2 y.v.items.length cap2, .int .i64 y.err] 37) = W at *
  have a0 : W.cell? ⟨w.heap.size, 0, none⟩ = some (.int .i64 x.label) := by rw [Lib.cell_of_heap hg1]; rfl
  have a1 : W.cell? ⟨w.heap.size, 1, none⟩ = some (.int .i64 x.kind) := by rw [Lib.cell_of_heap hg1]; rfl
  have a2 : W.cell? ⟨w.heap.size, 2, none⟩ = some (.int .i64 x.node) := by rw [Lib.cell_of_heap hg1]; rfl
  have a3 : W.cell? ⟨w.heap.size, 3, none⟩ = some (.int .i64 x.n) := by rw [Lib.cell_of_heap hg1]; rfl
  have a4 : W.cell? ⟨w.heap.size, 4, none⟩ = some (.int .i64 x.a) := by rw [Lib.cell_of_heap hg1]; rfl
  have a5 : W.cell? ⟨w.heap.size, 5, none⟩ = some (.int .i64 x.b) := by rw [Lib.cell_of_heap hg1]; rfl
  have a6 : W.cell? ⟨w.heap.size, 6, none⟩ = some (.int .i64 x.v.kind) := by rw [Lib.cell_of_heap hg1]; rfl
  have a7 : W.cell? ⟨w.heap.size, 7, none⟩ = some (.int .i64 x.v.num) := by rw [Lib.cell_of_heap hg1]; rfl
  have a8 : W.cell? ⟨w.heap.size, 8, none⟩ = some (.float .f64 x.v.flt) := by rw [Lib.cell_of_heap hg1]; rfl
  have a9 : W.cell? ⟨w.heap.size, 9, none⟩ = some (.string ⟨x.v.str.toArray⟩) := by rw [Lib.cell_of_heap hg1]; rfl
  have a10 : W.cell? ⟨w.heap.size, 10, none⟩ = some (.slice pp1 x.v.names.length pc1) := by rw [Lib.cell_of_heap hg1]; rfl
  have a11 : W.cell? ⟨w.heap.size, 11, none⟩ = some (.slice p1 x.v.items.length cap1) := by rw [Lib.cell_of_heap hg1]; rfl
  have a12 : W.cell? ⟨w.heap.size, 12, none⟩ = some (.int .i64 x.err) := by rw [Lib.cell_of_heap hg1]; rfl
  have c0 : W.cell? ⟨w.heap.size + 1, 0, none⟩ = some (.int .i64 y.label) := by rw [Lib.cell_of_heap hg2]; rfl
  have c1 : W.cell? ⟨w.heap.size + 1, 1, none⟩ = some (.int .i64 y.kind) := by rw [Lib.cell_of_heap hg2]; rfl
  have c2 : W.cell? ⟨w.heap.size + 1, 2, none⟩ = some (.int .i64 y.node) := by rw [Lib.cell_of_heap hg2]; rfl
  have c3 : W.cell? ⟨w.heap.size + 1, 3, none⟩ = some (.int .i64 y.n) := by rw [Lib.cell_of_heap hg2]; rfl
  have c4 : W.cell? ⟨w.heap.size + 1, 4, none⟩ = some (.int .i64 y.a) := by rw [Lib.cell_of_heap hg2]; rfl
  have c5 : W.cell? ⟨w.heap.size + 1, 5, none⟩ = some (.int .i64 y.b) := by rw [Lib.cell_of_heap hg2]; rfl
  have c6 : W.cell? ⟨w.heap.size + 1, 6, none⟩ = some (.int .i64 y.v.kind) := by rw [Lib.cell_of_heap hg2]; rfl
  have c7 : W.cell? ⟨w.heap.size + 1, 7, none⟩ = some (.int .i64 y.v.num) := by rw [Lib.cell_of_heap hg2]; rfl
  have c8 : W.cell? ⟨w.heap.size + 1, 8, none⟩ = some (.float .f64 y.v.flt) := by rw [Lib.cell_of_heap hg2]; rfl
  have c9 : W.cell? ⟨w.heap.size + 1, 9, none⟩ = some (.string ⟨y.v.str.toArray⟩) := by rw [Lib.cell_of_heap hg2]; rfl
  have c10 : W.cell? ⟨w.heap.size + 1, 10, none⟩ = some (.slice pp2 y.v.names.length pc2) := by rw [Lib.cell_of_heap hg2]; rfl
  have c11 : W.cell? ⟨w.heap.size + 1, 11, none⟩ = some (.slice p2 y.v.items.length cap2) := by rw [Lib.cell_of_heap hg2]; rfl
  have c12 : W.cell? ⟨w.heap.size + 1, 12, none⟩ = some (.int .i64 y.err) := by rw [Lib.cell_of_heap hg2]; rfl
  clear hg1 hg2
  by_cases h_label : x.label = y.label
  case neg =>
    have t_label : (x.label == y.label) = false := by simpa using h_label
    clear HS
    go_wp2_with fail
    go_ret
    exact ⟨ret_val (by simp [sameEv, h_label]), hB.out⟩
  have t_label : (x.label == y.label) = true := by simpa using h_label
  by_cases h_kind : x.kind = y.kind
  case neg =>
    have t_kind : (x.kind == y.kind) = false := by simpa using h_kind
    clear HS
    go_wp2_with fail
    go_ret
    exact ⟨ret_val (by simp [sameEv, h_label, h_kind]), hB.out⟩
  have t_kind : (x.kind == y.kind) = true := by simpa using h_kind
  by_cases h_node : x.node = y.node
  case neg =>
    have t_node : (x.node == y.node) = false := by simpa using h_node
    clear HS
    go_wp2_with fail
    go_ret
    exact ⟨ret_val (by simp [sameEv, h_label, h_kind, h_node]), hB.out⟩
  have t_node : (x.node == y.node) = true := by simpa using h_node
  by_cases h_n : x.n = y.n
  case neg =>
    have t_n : (x.n == y.n) = false := by simpa using h_n
    clear HS
    go_wp2_with fail
    go_ret
    exact ⟨ret_val (by simp [sameEv, h_label, h_kind, h_node, h_n]), hB.out⟩
  have t_n : (x.n == y.n) = true := by simpa using h_n
  by_cases h_a : x.a = y.a
  case neg =>
    have t_a : (x.a == y.a) = false := by simpa using h_a
    clear HS
    go_wp2_with fail
    go_ret
    exact ⟨ret_val (by simp [sameEv, h_label, h_kind, h_node, h_n, h_a]), hB.out⟩
  have t_a : (x.a == y.a) = true := by simpa using h_a
  by_cases h_b : x.b = y.b
  case neg =>
    have t_b : (x.b == y.b) = false := by simpa using h_b
    clear HS
    go_wp2_with fail
    go_ret
    exact ⟨ret_val (by simp [sameEv, h_label, h_kind, h_node, h_n, h_a, h_b]), hB.out⟩
  have t_b : (x.b == y.b) = true := by simpa using h_b
  by_cases h_err : x.err = y.err
  case neg =>
    have t_err : (x.err == y.err) = false := by simpa using h_err
    clear HS
    go_wp2_with fail
    go_ret
    exact ⟨ret_val (by simp [sameEv, h_label, h_kind, h_node, h_n, h_a, h_b, h_err]), hB.out⟩
  have t_err : (x.err == y.err) = true := by simpa using h_err
  go_wp2_with fail
  refine (HS.out).mono ?_; rintro e w3 ⟨rfl, hb3⟩
  go_wp2_with fail
  go_ret
  exact ⟨ret_val (by simp [sameEv, h_label, h_kind, h_node, h_n, h_a, h_b, h_err]), hB.out.trans (hb3.mono hB.out.size)⟩
end
end Go.Proofs.YthponidjednfbaaGreatDoor
