/-
  U2, U3, U5, U9, Da, Db in one text.
-/
import Derived.Below
import Derived.BigQuiet
import Derived.ChangeArms
import Derived.DataReads
import Derived.Deep.AppendLies
import Derived.Deep.AppendSrc
import Derived.Deep.Cut
import Derived.Deep.DeepCutAuto
import Derived.Deep.QuietTactic
import Derived.Deep.RegionHeld3
import Derived.Deep.RegionWith
import Derived.Defers
import Derived.Handy
import Derived.IntWalk
import Derived.Laws.Bits64b
import Derived.Laws.FloatBits
import Derived.Lib.AtoiAll
import Derived.Lib.Builder
import Derived.Lib.Bytealg
import Derived.Lib.Bytes
import Derived.Lib.ConvBytes
import Derived.Lib.FrozenHead2
import Derived.Lib.Hide
import Derived.Lib.IndexMore
import Derived.Lib.ItoaNum
import Derived.Lib.MinMax
import Derived.Lib.OthersKept
import Derived.Lib.ParseIntB
import Derived.Lib.UnsafeStr
import Derived.LoopTactic
import Derived.OneCell
import Derived.OwnWalk
import Derived.Recover
import Derived.RegionTactic
import Derived.Shelf.Abstract
import Derived.SizedLaws
import Derived.StillTailTactics
import Derived.Tactics
import Derived.Tactics2
import Derived.Test.YtkbcdlabfbonoaaGreatDoorChecked
import Derived.WalkKit
import Derived.WalkLawsBesides
import Derived.WalkSpells
import Derived.WideShapes
import Ieee.Arith
import Derived.Test.YtkbcdlabfbonoaaGreatDoorS00
import Derived.Test.YtkbcdlabfbonoaaGreatDoorS01
namespace Go.Proofs.YtkbcdlabfbonoaaGreatDoor
section
open Go.RowKit
def IffB (b : Bool) (P : Prop) : Prop := b = true ↔ P
theorem IffB.to {b : Bool} {P : Prop} (h : IffB b P) : b = true ↔ P := h
theorem ValAt.boxes {w : World} {d : Nat} {v : VT} {cs : Array Value} (h : ValAt w (d + 1) v cs) {p : Option Addr} {cap : Nat} {z0 z1 z2 z3 z4 : Value} (hc : cs = #[z0, z1, z2, z3, z4, .slice p v.items.length cap]) :
    ∀ i, i < v.items.length → ∃ g off, p = some ⟨g, off, none⟩ ∧ g < w.heap.size ∧ ∃ ds, ValAt w d (v.items.getD i noVT) ds ∧ ∀ j, j < 6 → w.cell? ⟨g, off + i * 6 + j, none⟩ = ds[j]? := by
  intro i hi
  obtain ⟨pn, pi, h1, _, _, _, _, _, _, h8⟩ := h
  have h2 := hc.symm.trans h1
  simp only [Array.mk.injEq, List.cons.injEq] at h2
  have h3 := h2.2.2.2.2.2.1
  rcases h8 with ⟨h8, _⟩ | ⟨g, off, c, h8, h9, h10⟩
  · rw [h8] at hi; simp at hi
  · rw [h8] at h3
    injection h3 with h3 _ _
    exact ⟨g, off, h3, h9, h10 i hi⟩
theorem ValAt.strs {w : World} {d : Nat} {v : VT} {cs : Array Value} (h : ValAt w (d + 1) v cs) {z0 z1 z2 z3 z4 z5 : Value} (hc : cs = #[z0, z1, z2, z3, z4, z5]) : Strs w v.names z4 ∧ F64 v.flt ∧ v.items.length ≤ 140737488355328 := by
  obtain ⟨pn, pi, h1, _, _, hf, _, h6, h7, _⟩ := h
  have h2 := hc.symm.trans h1
  simp only [Array.mk.injEq, List.cons.injEq] at h2
  rw [h2.2.2.2.2.1]
  exact ⟨h6, hf, h7⟩
theorem ValAt.ints {w : World} {d : Nat} {v : VT} {cs : Array Value} (h : ValAt w d v cs) : (-9223372036854775808 ≤ v.kind ∧ v.kind ≤ 9223372036854775807) ∧ (-9223372036854775808 ≤ v.num ∧ v.num ≤ 9223372036854775807) := by
  rcases d with _ | d
  · exact h.elim
  · obtain ⟨pn, pi, h1, h2, h3, _⟩ := h
    exact ⟨h2, h3⟩
set_option maxRecDepth 100000 in
set_option maxHeartbeats 16000000 in
theorem rOrder_step (d d2 : Nat) (a b : VT) (ca cb : Array Value) (w : World)
    (ih : ∀ (d2 : Nat) (a b : VT) (ca cb : Array Value) (w : World), ValAt w d a ca → ValAt w d2 b cb → Calls Tryz.prog 27 #[.agg ca, .agg cb] w (Gives (.int .i64 (ordV a b)) w))
    (ha : ValAt w (d + 1) a ca) (hb : ValAt w (d2 + 1) b cb) : Calls Tryz.prog 27 #[.agg ca, .agg cb] w (Gives (.int .i64 (ordV a b)) w) := by
  obtain ⟨pp, pc, p, cap, hca⟩ := ha.sixS
  obtain ⟨pp', pc', p', cap', hcb⟩ := hb.sixS
  have hia := ha.boxes hca
  have hib := hb.boxes hcb
  obtain ⟨hsa, hfa, hNb⟩ := ha.strs hca
  obtain ⟨hsb, hfb, hNb'⟩ := hb.strs hcb
  obtain ⟨⟨kA1, kA2⟩, xA1, xA2⟩ := ha.ints
  obtain ⟨⟨kB1, kB2⟩, xB1, xB2⟩ := hb.ints
  subst hca; subst hcb
  clear ha hb
  have hr0 := fun h => ordV_ne (a := a) (b := b) h
  have hr1 := fun h k => ordV_n (a := a) (b := b) h k
  have hr3 := fun h k => ordV_f (a := a) (b := b) h k
  have hr4 := fun h k => ordV_s (a := a) (b := b) h k
  have hrg := fun h k1 k2 k3 k4 => ordV_gen (a := a) (b := b) h k1 k2 k3 k4
  have hp0 := fun h => preO_l (a := a) (b := b) h
  have hp1 := fun h k l => preO_n (a := a) (b := b) h k l
  have hp2 := fun h k l => preO_s (a := a) (b := b) h k l
  have hq0 := fun h k => headO_r (a := a) (b := b) h k
  have hq1 : ¬ (preO a b = 0 ∧ a.kind ≠ 5) → headO a b = preO a b := fun h => by unfold headO; rw [if_neg h]
  have hstep := fun i (h1 : i < a.items.length) h2 => ordL_step (a := a.items) (b := b.items) (i := i) h1 h2
  have hend := fun i (h1 : i ≤ a.items.length) h2 h3 => ordL_end (a := a.items) (b := b.items) (i := i) h1 h2 h3
  have hft := fun w => rtext_ords a.str b.str w
  have hfo := fun w => rorder_any a.flt b.flt hfa hfb w
  generalize ordV a b = R at *
  generalize preO a b = c1 at *
  generalize headO a b = c2 at *
  generalize a.kind = K at *
  generalize b.kind = K' at *
  generalize a.num = X at *
  generalize b.num = X' at *
  generalize txtO a.str b.str = T at *
  generalize (⟨a.str.toArray⟩ : ByteArray) = S at *
  generalize (⟨b.str.toArray⟩ : ByteArray) = S' at *
  generalize ordB a.flt b.flt = FO at *
  generalize a.flt = fa at *
  generalize b.flt = fb at *
  have hfw := fun x (h : Below w.heap.size w x) => rrows_any a.names b.names (.slice pp a.names.length pc) (.slice pp' b.names.length pc') x (hsa.kept h) (hsb.kept h)
  generalize rowsO a.names b.names = RO at *
  generalize a.names.length = M at *
  generalize b.names.length = M' at *
  generalize a.items = its at *
  generalize b.items = its' at *
  generalize its.length = N at *
  generalize its'.length = N' at *
  have HP0 := Lib.hid hp0; have HP1 := Lib.hid hp1; have HP2 := Lib.hid hp2; have HQ0 := Lib.hid hq0; have HQ1 := Lib.hid hq1
  have HStep := Lib.hid hstep; have HEnd := Lib.hid hend
  have hB : Below w.heap.size w ((w.alloc (.cells #[.int .i64 K, .int .i64 X, .float .f64 fa, .string S, .slice pp M pc, .slice p N cap] 44)).alloc (.cells #[.int .i64 K', .int .i64 X', .float .f64 fb, .string S', .slice pp' M' pc', .slice p' N' cap'] 44)) := ((Below.refl _ _).alloc (Nat.le_refl _) _).alloc (by simp) _
  have e1 : (w.alloc (.cells #[.int .i64 K, .int .i64 X, .float .f64 fa, .string S, .slice pp M pc, .slice p N cap] 44)).heap.size = w.heap.size + 1 := by simp
  have hnA : ((w.alloc (.cells #[.int .i64 K, .int .i64 X, .float .f64 fa, .string S, .slice pp M pc, .slice p N cap] 44)).alloc (.cells #[.int .i64 K', .int .i64 X', .float .f64 fb, .string S', .slice pp' M' pc', .slice p' N' cap'] 44)).heap[w.heap.size]? = some (.cells #[.int .i64 K, .int .i64 X, .float .f64 fa, .string S, .slice pp M pc, .slice p N cap] 44 (0, 0)) := by
    rw [Lib.alloc_old _ _ _ (by simp)]; exact heap_alloc_new w _
  have hnB : ((w.alloc (.cells #[.int .i64 K, .int .i64 X, .float .f64 fa, .string S, .slice pp M pc, .slice p N cap] 44)).alloc (.cells #[.int .i64 K', .int .i64 X', .float .f64 fb, .string S', .slice pp' M' pc', .slice p' N' cap'] 44)).heap[w.heap.size + 1]? = some (.cells #[.int .i64 K', .int .i64 X', .float .f64 fb, .string S', .slice pp' M' pc', .slice p' N' cap'] 44 (0, 0)) := by
    have := heap_alloc_new (w.alloc (.cells #[.int .i64 K, .int .i64 X, .float .f64 fa, .string S, .slice pp M pc, .slice p N cap] 44)) (.cells #[.int .i64 K', .int .i64 X', .float .f64 fb, .string S', .slice pp' M' pc', .slice p' N' cap'] 44)
    rwa [e1] at this
  have HBl := Lib.hid (fun x (h : Below ((w.alloc (.cells #[.int .i64 K, .int .i64 X, .float .f64 fa, .string S, .slice pp M pc, .slice p N cap] 44)).alloc (.cells #[.int .i64 K', .int .i64 X', .float .f64 fb, .string S', .slice pp' M' pc', .slice p' N' cap'] 44)).heap.size ((w.alloc (.cells #[.int .i64 K, .int .i64 X, .float .f64 fa, .string S, .slice pp M pc, .slice p N cap] 44)).alloc (.cells #[.int .i64 K', .int .i64 X', .float .f64 fb, .string S', .slice pp' M' pc', .slice p' N' cap'] 44)) x) => (show x.heap[w.heap.size]? = some (.cells #[.int .i64 K, .int .i64 X, .float .f64 fa, .string S, .slice pp M pc, .slice p N cap] 44 (0, 0)) ∧ x.heap[w.heap.size + 1]? = some (.cells #[.int .i64 K', .int .i64 X', .float .f64 fb, .string S', .slice pp' M' pc', .slice p' N' cap'] 44 (0, 0)) from ⟨(h.block _ (lt_of_block hnA)).trans hnA, (h.block _ (lt_of_block hnB)).trans hnB⟩))
  have HIA := Lib.hid (fun i (hi : i < N) x (h : Below ((w.alloc (.cells #[.int .i64 K, .int .i64 X, .float .f64 fa, .string S, .slice pp M pc, .slice p N cap] 44)).alloc (.cells #[.int .i64 K', .int .i64 X', .float .f64 fb, .string S', .slice pp' M' pc', .slice p' N' cap'] 44)).heap.size ((w.alloc (.cells #[.int .i64 K, .int .i64 X, .float .f64 fa, .string S, .slice pp M pc, .slice p N cap] 44)).alloc (.cells #[.int .i64 K', .int .i64 X', .float .f64 fb, .string S', .slice pp' M' pc', .slice p' N' cap'] 44)) x) => (show ∃ g off, p = some ⟨g, off, none⟩ ∧ ∃ ds, ValAt x d (its.getD i noVT) ds ∧ x.cell? ⟨g, off + i * 6 + 0, none⟩ = ds[0]? ∧ x.cell? ⟨g, off + i * 6 + 1, none⟩ = ds[1]? ∧ x.cell? ⟨g, off + i * 6 + 2, none⟩ = ds[2]? ∧ x.cell? ⟨g, off + i * 6 + 3, none⟩ = ds[3]? ∧ x.cell? ⟨g, off + i * 6 + 4, none⟩ = ds[4]? ∧ x.cell? ⟨g, off + i * 6 + 5, none⟩ = ds[5]? from by
    obtain ⟨g, off, h1, h2, ds, h3, h4⟩ := hia i hi
    have hx := hB.trans (h.mono hB.size)
    have hc := fun j (hj : j < 6) => (hx.cell (p := ⟨g, off + i * 6 + j, none⟩) h2).trans (h4 j hj)
    exact ⟨g, off, h1, ds, h3.kept hx, hc 0 (by omega), hc 1 (by omega), hc 2 (by omega), hc 3 (by omega), hc 4 (by omega), hc 5 (by omega)⟩))
  have HIB := Lib.hid (fun i (hi : i < N') x (h : Below ((w.alloc (.cells #[.int .i64 K, .int .i64 X, .float .f64 fa, .string S, .slice pp M pc, .slice p N cap] 44)).alloc (.cells #[.int .i64 K', .int .i64 X', .float .f64 fb, .string S', .slice pp' M' pc', .slice p' N' cap'] 44)).heap.size ((w.alloc (.cells #[.int .i64 K, .int .i64 X, .float .f64 fa, .string S, .slice pp M pc, .slice p N cap] 44)).alloc (.cells #[.int .i64 K', .int .i64 X', .float .f64 fb, .string S', .slice pp' M' pc', .slice p' N' cap'] 44)) x) => (show ∃ g off, p' = some ⟨g, off, none⟩ ∧ ∃ ds, ValAt x d2 (its'.getD i noVT) ds ∧ x.cell? ⟨g, off + i * 6 + 0, none⟩ = ds[0]? ∧ x.cell? ⟨g, off + i * 6 + 1, none⟩ = ds[1]? ∧ x.cell? ⟨g, off + i * 6 + 2, none⟩ = ds[2]? ∧ x.cell? ⟨g, off + i * 6 + 3, none⟩ = ds[3]? ∧ x.cell? ⟨g, off + i * 6 + 4, none⟩ = ds[4]? ∧ x.cell? ⟨g, off + i * 6 + 5, none⟩ = ds[5]? from by
    obtain ⟨g, off, h1, h2, ds, h3, h4⟩ := hib i hi
    have hx := hB.trans (h.mono hB.size)
    have hc := fun j (hj : j < 6) => (hx.cell (p := ⟨g, off + i * 6 + j, none⟩) h2).trans (h4 j hj)
    exact ⟨g, off, h1, ds, h3.kept hx, hc 0 (by omega), hc 1 (by omega), hc 2 (by omega), hc 3 (by omega), hc 4 (by omega), hc 5 (by omega)⟩))
  have HW := Lib.hid (fun x (h : Below ((w.alloc (.cells #[.int .i64 K, .int .i64 X, .float .f64 fa, .string S, .slice pp M pc, .slice p N cap] 44)).alloc (.cells #[.int .i64 K', .int .i64 X', .float .f64 fb, .string S', .slice pp' M' pc', .slice p' N' cap'] 44)).heap.size ((w.alloc (.cells #[.int .i64 K, .int .i64 X, .float .f64 fa, .string S, .slice pp M pc, .slice p N cap] 44)).alloc (.cells #[.int .i64 K', .int .i64 X', .float .f64 fb, .string S', .slice pp' M' pc', .slice p' N' cap'] 44)) x) => hfw x (hB.trans (h.mono hB.size)))
  have HS := Lib.hid (fun n m w => rsign_any n m w)
  have HT := Lib.hid hft
  have HF := Lib.hid hfo
  have IH := Lib.hid ih
  have HR0 := Lib.hid hr0; have HR1 := Lib.hid hr1; have HR3 := Lib.hid hr3; have HR4 := Lib.hid hr4; have HRG := Lib.hid hrg
  clear hnA hnB e1 hia hib hsa hsb hfa hfb hfo hft hfw ih hp0 hp1 hp2 hq0 hq1 hstep hend hr0 hr1 hr3 hr4 hrg
  generalize hgh : w.heap.size = H at *
  have HH := Lib.hid hgh; clear hgh
  by_cases hk : K = K'
  · subst hk
    have HR1 := Lib.hid (HR1.out rfl); have HR3 := Lib.hid (HR3.out rfl); have HR4 := Lib.hid (HR4.out rfl); have HRG := Lib.hid (HRG.out rfl)
    have t0 : (K != K) = false := by simp
    by_cases k1 : K = 1
    · have HR := Lib.hid (HR1.out (.inl k1))
      subst k1
      go_enter Tryz.func27, Tryz.ntmps27
      go_upto_region 1 with (fail)
      rw [HH.out]
      generalize (w.alloc (.cells #[.int .i64 1, .int .i64 X, .float .f64 fa, .string S, .slice pp M pc, .slice p N cap] 44)).alloc (.cells #[.int .i64 1, .int .i64 X', .float .f64 fb, .string S', .slice pp' M' pc', .slice p' N' cap'] 44) = W1 at *
      have nA := (HBl.out _ (Below.refl _ _)).1; have nB := (HBl.out _ (Below.refl _ _)).2
      have a0 : W1.cell? ⟨H, 0, none⟩ = some (.int .i64 1) := by rw [Lib.cell_of_heap nA]; rfl
      have b0 : W1.cell? ⟨H + 1, 0, none⟩ = some (.int .i64 1) := by rw [Lib.cell_of_heap nB]; rfl
      have a1 : W1.cell? ⟨H, 1, none⟩ = some (.int .i64 X) := by rw [Lib.cell_of_heap nA]; rfl
      have b1 : W1.cell? ⟨H + 1, 1, none⟩ = some (.int .i64 X') := by rw [Lib.cell_of_heap nB]; rfl
      have a2 : W1.cell? ⟨H, 2, none⟩ = some (.float .f64 fa) := by rw [Lib.cell_of_heap nA]; rfl
      have b2 : W1.cell? ⟨H + 1, 2, none⟩ = some (.float .f64 fb) := by rw [Lib.cell_of_heap nB]; rfl
      have a3 : W1.cell? ⟨H, 3, none⟩ = some (.string S) := by rw [Lib.cell_of_heap nA]; rfl
      have b3 : W1.cell? ⟨H + 1, 3, none⟩ = some (.string S') := by rw [Lib.cell_of_heap nB]; rfl
      have a4 : W1.cell? ⟨H, 4, none⟩ = some (.slice pp M pc) := by rw [Lib.cell_of_heap nA]; rfl
      have b4 : W1.cell? ⟨H + 1, 4, none⟩ = some (.slice pp' M' pc') := by rw [Lib.cell_of_heap nB]; rfl
      have a5 : W1.cell? ⟨H, 5, none⟩ = some (.slice p N cap) := by rw [Lib.cell_of_heap nA]; rfl
      have b5 : W1.cell? ⟨H + 1, 5, none⟩ = some (.slice p' N' cap') := by rw [Lib.cell_of_heap nB]; rfl
      clear nA nB
      go_wp2_with (go_at_call 40; refine (HS.out _ _ _).mono ?_; rintro e w' ⟨rfl, rfl⟩)
      go_ret
      exact ⟨ret_val (by rw [HR.out]; rfl), by rw [HH.out]; exact hB⟩
    by_cases k2 : K = 2
    · have HR := Lib.hid (HR1.out (.inr k2))
      subst k2
      go_enter Tryz.func27, Tryz.ntmps27
      go_upto_region 1 with (fail)
      rw [HH.out]
      generalize (w.alloc (.cells #[.int .i64 2, .int .i64 X, .float .f64 fa, .string S, .slice pp M pc, .slice p N cap] 44)).alloc (.cells #[.int .i64 2, .int .i64 X', .float .f64 fb, .string S', .slice pp' M' pc', .slice p' N' cap'] 44) = W1 at *
      have nA := (HBl.out _ (Below.refl _ _)).1; have nB := (HBl.out _ (Below.refl _ _)).2
      have a0 : W1.cell? ⟨H, 0, none⟩ = some (.int .i64 2) := by rw [Lib.cell_of_heap nA]; rfl
      have b0 : W1.cell? ⟨H + 1, 0, none⟩ = some (.int .i64 2) := by rw [Lib.cell_of_heap nB]; rfl
      have a1 : W1.cell? ⟨H, 1, none⟩ = some (.int .i64 X) := by rw [Lib.cell_of_heap nA]; rfl
      have b1 : W1.cell? ⟨H + 1, 1, none⟩ = some (.int .i64 X') := by rw [Lib.cell_of_heap nB]; rfl
      have a2 : W1.cell? ⟨H, 2, none⟩ = some (.float .f64 fa) := by rw [Lib.cell_of_heap nA]; rfl
      have b2 : W1.cell? ⟨H + 1, 2, none⟩ = some (.float .f64 fb) := by rw [Lib.cell_of_heap nB]; rfl
      have a3 : W1.cell? ⟨H, 3, none⟩ = some (.string S) := by rw [Lib.cell_of_heap nA]; rfl
      have b3 : W1.cell? ⟨H + 1, 3, none⟩ = some (.string S') := by rw [Lib.cell_of_heap nB]; rfl
      have a4 : W1.cell? ⟨H, 4, none⟩ = some (.slice pp M pc) := by rw [Lib.cell_of_heap nA]; rfl
      have b4 : W1.cell? ⟨H + 1, 4, none⟩ = some (.slice pp' M' pc') := by rw [Lib.cell_of_heap nB]; rfl
      have a5 : W1.cell? ⟨H, 5, none⟩ = some (.slice p N cap) := by rw [Lib.cell_of_heap nA]; rfl
      have b5 : W1.cell? ⟨H + 1, 5, none⟩ = some (.slice p' N' cap') := by rw [Lib.cell_of_heap nB]; rfl
      clear nA nB
      go_wp2_with (go_at_call 40; refine (HS.out _ _ _).mono ?_; rintro e w' ⟨rfl, rfl⟩)
      go_ret
      exact ⟨ret_val (by rw [HR.out]; rfl), by rw [HH.out]; exact hB⟩
    by_cases k3 : K = 3
    · have HR := Lib.hid (HR3.out k3)
      subst k3
      go_enter Tryz.func27, Tryz.ntmps27
      go_upto_region 1 with (fail)
      rw [HH.out]
      generalize (w.alloc (.cells #[.int .i64 3, .int .i64 X, .float .f64 fa, .string S, .slice pp M pc, .slice p N cap] 44)).alloc (.cells #[.int .i64 3, .int .i64 X', .float .f64 fb, .string S', .slice pp' M' pc', .slice p' N' cap'] 44) = W1 at *
      have nA := (HBl.out _ (Below.refl _ _)).1; have nB := (HBl.out _ (Below.refl _ _)).2
      have a0 : W1.cell? ⟨H, 0, none⟩ = some (.int .i64 3) := by rw [Lib.cell_of_heap nA]; rfl
      have b0 : W1.cell? ⟨H + 1, 0, none⟩ = some (.int .i64 3) := by rw [Lib.cell_of_heap nB]; rfl
      have a1 : W1.cell? ⟨H, 1, none⟩ = some (.int .i64 X) := by rw [Lib.cell_of_heap nA]; rfl
      have b1 : W1.cell? ⟨H + 1, 1, none⟩ = some (.int .i64 X') := by rw [Lib.cell_of_heap nB]; rfl
      have a2 : W1.cell? ⟨H, 2, none⟩ = some (.float .f64 fa) := by rw [Lib.cell_of_heap nA]; rfl
      have b2 : W1.cell? ⟨H + 1, 2, none⟩ = some (.float .f64 fb) := by rw [Lib.cell_of_heap nB]; rfl
      have a3 : W1.cell? ⟨H, 3, none⟩ = some (.string S) := by rw [Lib.cell_of_heap nA]; rfl
      have b3 : W1.cell? ⟨H + 1, 3, none⟩ = some (.string S') := by rw [Lib.cell_of_heap nB]; rfl
      have a4 : W1.cell? ⟨H, 4, none⟩ = some (.slice pp M pc) := by rw [Lib.cell_of_heap nA]; rfl
      have b4 : W1.cell? ⟨H + 1, 4, none⟩ = some (.slice pp' M' pc') := by rw [Lib.cell_of_heap nB]; rfl
      have a5 : W1.cell? ⟨H, 5, none⟩ = some (.slice p N cap) := by rw [Lib.cell_of_heap nA]; rfl
      have b5 : W1.cell? ⟨H + 1, 5, none⟩ = some (.slice p' N' cap') := by rw [Lib.cell_of_heap nB]; rfl
      clear nA nB
      go_wp2_with (go_at_call 41; refine (HF.out _).mono ?_; rintro e w' ⟨rfl, rfl⟩)
      go_ret
      exact ⟨ret_val (by rw [HR.out]; rfl), by rw [HH.out]; exact hB⟩
    by_cases k4 : K = 4
    · have HR := Lib.hid (HR4.out k4)
      subst k4
      go_enter Tryz.func27, Tryz.ntmps27
      go_upto_region 1 with (fail)
      rw [HH.out]
      generalize (w.alloc (.cells #[.int .i64 4, .int .i64 X, .float .f64 fa, .string S, .slice pp M pc, .slice p N cap] 44)).alloc (.cells #[.int .i64 4, .int .i64 X', .float .f64 fb, .string S', .slice pp' M' pc', .slice p' N' cap'] 44) = W1 at *
      have nA := (HBl.out _ (Below.refl _ _)).1; have nB := (HBl.out _ (Below.refl _ _)).2
      have a0 : W1.cell? ⟨H, 0, none⟩ = some (.int .i64 4) := by rw [Lib.cell_of_heap nA]; rfl
      have b0 : W1.cell? ⟨H + 1, 0, none⟩ = some (.int .i64 4) := by rw [Lib.cell_of_heap nB]; rfl
      have a1 : W1.cell? ⟨H, 1, none⟩ = some (.int .i64 X) := by rw [Lib.cell_of_heap nA]; rfl
      have b1 : W1.cell? ⟨H + 1, 1, none⟩ = some (.int .i64 X') := by rw [Lib.cell_of_heap nB]; rfl
      have a2 : W1.cell? ⟨H, 2, none⟩ = some (.float .f64 fa) := by rw [Lib.cell_of_heap nA]; rfl
      have b2 : W1.cell? ⟨H + 1, 2, none⟩ = some (.float .f64 fb) := by rw [Lib.cell_of_heap nB]; rfl
      have a3 : W1.cell? ⟨H, 3, none⟩ = some (.string S) := by rw [Lib.cell_of_heap nA]; rfl
      have b3 : W1.cell? ⟨H + 1, 3, none⟩ = some (.string S') := by rw [Lib.cell_of_heap nB]; rfl
      have a4 : W1.cell? ⟨H, 4, none⟩ = some (.slice pp M pc) := by rw [Lib.cell_of_heap nA]; rfl
      have b4 : W1.cell? ⟨H + 1, 4, none⟩ = some (.slice pp' M' pc') := by rw [Lib.cell_of_heap nB]; rfl
      have a5 : W1.cell? ⟨H, 5, none⟩ = some (.slice p N cap) := by rw [Lib.cell_of_heap nA]; rfl
      have b5 : W1.cell? ⟨H + 1, 5, none⟩ = some (.slice p' N' cap') := by rw [Lib.cell_of_heap nB]; rfl
      clear nA nB
      go_wp2_with (go_at_call 42; refine (HT.out _).mono ?_; rintro e w' ⟨rfl, rfl⟩)
      go_ret
      exact ⟨ret_val (by rw [HR.out]; rfl), by rw [HH.out]; exact hB⟩
    have t1 : (K == 1) = false := beq_eq_false_iff_ne.2 k1
    have t2 : (K == 2) = false := beq_eq_false_iff_ne.2 k2
    have t3 : (K == 3) = false := beq_eq_false_iff_ne.2 k3
    have t4 : (K == 4) = false := beq_eq_false_iff_ne.2 k4
    have HR := Lib.hid (HRG.out k1 k2 k3 k4)
    clear k1 k2 k3 k4 HR0 HR1 HR3 HR4 HRG
    go_enter Tryz.func27, Tryz.ntmps27
    go_upto_region 1 with (fail)
    rw [HH.out]
    generalize (w.alloc (.cells #[.int .i64 K, .int .i64 X, .float .f64 fa, .string S, .slice pp M pc, .slice p N cap] 44)).alloc (.cells #[.int .i64 K, .int .i64 X', .float .f64 fb, .string S', .slice pp' M' pc', .slice p' N' cap'] 44) = W1 at *
    have nA := (HBl.out _ (Below.refl _ _)).1; have nB := (HBl.out _ (Below.refl _ _)).2
    have a0 : W1.cell? ⟨H, 0, none⟩ = some (.int .i64 K) := by rw [Lib.cell_of_heap nA]; rfl
    have b0 : W1.cell? ⟨H + 1, 0, none⟩ = some (.int .i64 K) := by rw [Lib.cell_of_heap nB]; rfl
    have a1 : W1.cell? ⟨H, 1, none⟩ = some (.int .i64 X) := by rw [Lib.cell_of_heap nA]; rfl
    have b1 : W1.cell? ⟨H + 1, 1, none⟩ = some (.int .i64 X') := by rw [Lib.cell_of_heap nB]; rfl
    have a2 : W1.cell? ⟨H, 2, none⟩ = some (.float .f64 fa) := by rw [Lib.cell_of_heap nA]; rfl
    have b2 : W1.cell? ⟨H + 1, 2, none⟩ = some (.float .f64 fb) := by rw [Lib.cell_of_heap nB]; rfl
    have a3 : W1.cell? ⟨H, 3, none⟩ = some (.string S) := by rw [Lib.cell_of_heap nA]; rfl
    have b3 : W1.cell? ⟨H + 1, 3, none⟩ = some (.string S') := by rw [Lib.cell_of_heap nB]; rfl
    have a4 : W1.cell? ⟨H, 4, none⟩ = some (.slice pp M pc) := by rw [Lib.cell_of_heap nA]; rfl
    have b4 : W1.cell? ⟨H + 1, 4, none⟩ = some (.slice pp' M' pc') := by rw [Lib.cell_of_heap nB]; rfl
    have a5 : W1.cell? ⟨H, 5, none⟩ = some (.slice p N cap) := by rw [Lib.cell_of_heap nA]; rfl
    have b5 : W1.cell? ⟨H + 1, 5, none⟩ = some (.slice p' N' cap') := by rw [Lib.cell_of_heap nB]; rfl
    clear nA nB
    have hBB := Below.refl W1.heap.size W1
    go_upto_region 12 with (fail)
    go_cut [48] (fun v wx => ∃ b, v = .bool b ∧ IffB b (K ≠ 5 ∧ K ≠ 6) ∧ W1 = wx)
    case first =>
      by_cases k5 : K = 5
      · have n5 : (K != 5) = false := by rw [k5]; rfl
        have hx : IffB false (K ≠ 5 ∧ K ≠ 6) := ⟨(fun h => nomatch h), (fun h => absurd k5 h.1)⟩
        clear k5
        go_wp2_with fail
        go_meet
        exact ⟨_, rfl, hx, rfl⟩
      · have n5 : (K != 5) = true := by rw [bne_iff_ne]; exact k5
        by_cases k6 : K = 6
        · have n6 : (K != 6) = false := by rw [k6]; rfl
          have hx : IffB false (K ≠ 5 ∧ K ≠ 6) := ⟨(fun h => nomatch h), (fun h => absurd k6 h.2)⟩
          clear k5 k6
          go_wp2_with fail
          go_meet
          exact ⟨_, rfl, hx, rfl⟩
        · have n6 : (K != 6) = true := by rw [bne_iff_ne]; exact k6
          have hx : IffB true (K ≠ 5 ∧ K ≠ 6) := ⟨fun _ => ⟨k5, k6⟩, fun _ => rfl⟩
          clear k5 k6
          go_wp2_with fail
          go_meet
          exact ⟨_, rfl, hx, rfl⟩
    case rest =>
      obtain ⟨b, rfl, hbk, hw⟩ := hcut
      subst hw
      go_upto_if 48 with (fail)
      go_cut [5] (fun v wx => v = .int .i64 c1 ∧ W1 = wx)
      case first =>
        cases b
        · have h0 : c1 = 0 := HP0.out (by
            by_cases k5 : K = 5
            · exact .inl k5
            · by_cases k6 : K = 6
              · exact .inr k6
              · have := hbk.to.2 ⟨k5, k6⟩; cases this)
          have h0 := Lib.hid h0
          go_wp2_with fail
          go_meet
          exact ⟨by rw [h0.out], rfl⟩
        · obtain ⟨k5, k6⟩ := hbk.to.1 rfl
          have HP1 := Lib.hid (HP1.out k5 k6); have HP2 := Lib.hid (HP2.out k5 k6)
          clear k5 k6
          have HSg := Lib.hid (fun w => HS.out X X' w)
          generalize sgnI X X' = sg at *
          by_cases hsg : sg = 0
          · have hc := Lib.hid (HP2.out hsg)
            subst hsg
            go_wp2_with (first | (go_at_call 40; refine (HSg.out _).mono ?_; rintro e w' ⟨rfl, rfl⟩) | (go_at_call 42; refine (HT.out _).mono ?_; rintro e w' ⟨rfl, rfl⟩))
            go_meet
            exact ⟨by rw [hc.out], rfl⟩
          · have hc := Lib.hid (HP1.out hsg)
            have tsg : (sg == 0) = false := beq_eq_false_iff_ne.2 hsg
            clear hsg
            go_wp2_with (first | (go_at_call 40; refine (HSg.out _).mono ?_; rintro e w' ⟨rfl, rfl⟩) | (go_at_call 42; refine (HT.out _).mono ?_; rintro e w' ⟨rfl, rfl⟩))
            go_meet
            exact ⟨by rw [hc.out], rfl⟩
      case rest =>
        obtain ⟨rfl, hw⟩ := hcut
        subst hw
        clear hbk HP0 HP1 HP2
        go_upto_region 16 with (fail)
        go_cut [67] (fun v wx => ∃ b, v = .bool b ∧ IffB b (c1 = 0 ∧ K ≠ 5) ∧ W1 = wx)
        case first =>
          by_cases k1 : c1 = 0
          · have n1 : (c1 == 0) = true := by rw [k1]; rfl
            by_cases k5 : K = 5
            · have n5 : (K != 5) = false := by rw [k5]; rfl
              have hx : IffB false (c1 = 0 ∧ K ≠ 5) := ⟨(fun h => nomatch h), (fun h => absurd k5 h.2)⟩
              clear k5 k1
              go_wp2_with fail
              go_meet
              exact ⟨_, rfl, hx, rfl⟩
            · have n5 : (K != 5) = true := by rw [bne_iff_ne]; exact k5
              have hx : IffB true (c1 = 0 ∧ K ≠ 5) := ⟨fun _ => ⟨k1, k5⟩, fun _ => rfl⟩
              clear k5 k1
              go_wp2_with fail
              go_meet
              exact ⟨_, rfl, hx, rfl⟩
          · have n1 : (c1 == 0) = false := beq_eq_false_iff_ne.2 k1
            have hx : IffB false (c1 = 0 ∧ K ≠ 5) := ⟨(fun h => nomatch h), (fun h => absurd h.1 k1)⟩
            clear k1
            go_wp2_with fail
            go_meet
            exact ⟨_, rfl, hx, rfl⟩
        case rest =>
          obtain ⟨b, rfl, hbk, hw⟩ := hcut
          subst hw
          go_upto_if 67 with (fail)
          go_cut [5] (fun v wx => v = .int .i64 c2 ∧ Below W1.heap.size W1 wx)
          case first =>
            cases b
            · have h0 : c2 = c1 := HQ1.out (fun h => by have := hbk.to.2 h; cases this)
              have h0 := Lib.hid h0
              go_wp2_with fail
              go_meet
              exact ⟨by rw [h0.out], Below.refl _ _⟩
            · have h0 := Lib.hid (HQ0.out (hbk.to.1 rfl).1 (hbk.to.1 rfl).2)
              go_wp2_with (go_at_call 43; refine (HW.out _ (Below.refl _ _)).mono ?_; rintro e w2 ⟨rfl, hw2⟩)
              go_meet
              exact ⟨by rw [h0.out], hw2⟩
          case rest =>
            obtain ⟨rfl, hB2⟩ := hcut
            clear hbk HQ0 HQ1 hBB HW HT HF
            clear a0 b0 a1 b1 a2 b2 a3 b3 a4 b4 a5 b5
            go_wp2_with fail
            go_loopw [5, 6] (fun cv iv wr => ∃ (i : Nat) (c : Int), cv = .int .i64 c ∧ iv = .int .i64 (i : Int) ∧ i ≤ N ∧ i ≤ N' ∧ Hid (R = if c = 0 then ordL (its.drop i) (its'.drop i) else c) ∧ Below W1.heap.size W1 wr) (fun _ iv _ => N - (intOf iv).toNat)
            case atStart => exact ⟨0, _, rfl, rfl, Nat.zero_le _, Nat.zero_le _, by show _ = _; rw [List.drop_zero, List.drop_zero]; exact HR.out, hB2⟩
            case round =>
              clear hB2 HR
              obtain ⟨i, c, rfl, rfl, hi, hi', hR, hb⟩ := hrel
              have nA := (HBl.out _ hb).1; have nB := (HBl.out _ hb).2
              have a0 : wr.cell? ⟨H, 0, none⟩ = some (.int .i64 K) := by rw [Lib.cell_of_heap nA]; rfl
              have b0 : wr.cell? ⟨H + 1, 0, none⟩ = some (.int .i64 K) := by rw [Lib.cell_of_heap nB]; rfl
              have a1 : wr.cell? ⟨H, 1, none⟩ = some (.int .i64 X) := by rw [Lib.cell_of_heap nA]; rfl
              have b1 : wr.cell? ⟨H + 1, 1, none⟩ = some (.int .i64 X') := by rw [Lib.cell_of_heap nB]; rfl
              have a2 : wr.cell? ⟨H, 2, none⟩ = some (.float .f64 fa) := by rw [Lib.cell_of_heap nA]; rfl
              have b2 : wr.cell? ⟨H + 1, 2, none⟩ = some (.float .f64 fb) := by rw [Lib.cell_of_heap nB]; rfl
              have a3 : wr.cell? ⟨H, 3, none⟩ = some (.string S) := by rw [Lib.cell_of_heap nA]; rfl
              have b3 : wr.cell? ⟨H + 1, 3, none⟩ = some (.string S') := by rw [Lib.cell_of_heap nB]; rfl
              have a4 : wr.cell? ⟨H, 4, none⟩ = some (.slice pp M pc) := by rw [Lib.cell_of_heap nA]; rfl
              have b4 : wr.cell? ⟨H + 1, 4, none⟩ = some (.slice pp' M' pc') := by rw [Lib.cell_of_heap nB]; rfl
              have a5 : wr.cell? ⟨H, 5, none⟩ = some (.slice p N cap) := by rw [Lib.cell_of_heap nA]; rfl
              have b5 : wr.cell? ⟨H + 1, 5, none⟩ = some (.slice p' N' cap') := by rw [Lib.cell_of_heap nB]; rfl
              clear nA nB
              by_cases hc : c = 0
              · subst hc
                replace hR : Hid (R = ordL (its.drop i) (its'.drop i)) := by show _ = _; rw [hR.out, if_pos rfl]
                by_cases hlt : i < N
                · have t0 : decide ((i : Int) < (N : Int)) = true := by simp; omega
                  by_cases hlm : i < N'
                  · have tm : decide ((i : Int) < (N' : Int)) = true := by simp; omega
                    obtain ⟨gA, offA, rfl, dsA, hvaA, x0, x1, x2, x3, x4, x5⟩ := HIA.out i hlt _ hb
                    obtain ⟨gB, offB, rfl, dsB, hvaB, y0, y1, y2, y3, y4, y5⟩ := HIB.out i hlm _ hb
                    obtain ⟨q1, r1, s1, v1, rfl⟩ := hvaA.sixS
                    obtain ⟨q2, r2, s2, v2, rfl⟩ := hvaB.sixS
                    simp at x0 x1 x2 x3 x4 x5 y0 y1 y2 y3 y4 y5
                    have i1 : (0 : Int) ≤ (i : Int) := by omega
                    have i2 : (i : Int) < (N : Int) := by omega
                    have i3 : (i : Int) < (N' : Int) := by omega
                    have HQ := Lib.hid (IH.out d2 _ _ _ _ wr.drew (hvaA.kept ((Below.refl wr.heap.size wr).drew)) (hvaB.kept ((Below.refl wr.heap.size wr).drew)))
                    have HSt := Lib.hid (HStep.out i hlt hlm)
                    clear hvaA hvaB
                    generalize ordV (its.getD i noVT) (its'.getD i noVT) = c' at *
                    go_wp2_with fail
                    refine wp_still_tailG 10 (by kernel_rfl) (by kernel_rfl) ?_
                    simp only [List.take_succ_cons, List.take_zero, List.drop_succ_cons, List.drop_zero]
                    iterate 10 (refine StillG.step (fun K hK => ?_); go_simp; refine hK _ ?_; clear hK K)
                    refine StillG.nil ?_
                    go_wp2_with fail
                    refine (HQ.out).mono ?_; rintro e w3 ⟨rfl, hb3⟩
                    go_wp2_with fail
                    go_roundw
                    case rel => exact ⟨i + 1, c', rfl, by go_num, by omega, by omega, by show _ = _; rw [hR.out, HSt.out], hb.trans ((undrew hb3).mono hb.size)⟩
                    case measure => simp [intOf]; omega
                  · have tm : decide ((i : Int) < (N' : Int)) = false := by simp; omega
                    have HE := Lib.hid (HEnd.out i hi hi' (.inr (by omega)))
                    go_wp2_with (go_at_call 40; refine (HS.out _ _ _).mono ?_; rintro e w' ⟨rfl, rfl⟩)
                    go_ret
                    exact ⟨ret_val (by rw [hR.out, HE.out]; rfl), by rw [HH.out]; exact hB.trans (hb.mono (by have := hB.size; rw [HH.out] at this; exact this))⟩
                · have t0 : decide ((i : Int) < (N : Int)) = false := by simp; omega
                  have HE := Lib.hid (HEnd.out i hi hi' (.inl (by omega)))
                  go_wp2_with (go_at_call 40; refine (HS.out _ _ _).mono ?_; rintro e w' ⟨rfl, rfl⟩)
                  go_ret
                  exact ⟨ret_val (by rw [hR.out, HE.out]; rfl), by rw [HH.out]; exact hB.trans (hb.mono (by have := hB.size; rw [HH.out] at this; exact this))⟩
              · replace hR : Hid (R = c) := by show _ = _; rw [hR.out, if_neg hc]
                have tc : (c == 0) = false := beq_eq_false_iff_ne.2 hc
                clear hc
                by_cases hlt : i < N
                · have t0 : decide ((i : Int) < (N : Int)) = true := by simp; omega
                  by_cases hlm : i < N'
                  · have tm : decide ((i : Int) < (N' : Int)) = true := by simp; omega
                    go_wp2_with fail
                    go_ret
                    exact ⟨ret_val (by rw [hR.out]; rfl), by rw [HH.out]; exact hB.trans (hb.mono (by have := hB.size; rw [HH.out] at this; exact this))⟩
                  · have tm : decide ((i : Int) < (N' : Int)) = false := by simp; omega
                    go_wp2_with fail
                    go_ret
                    exact ⟨ret_val (by rw [hR.out]; rfl), by rw [HH.out]; exact hB.trans (hb.mono (by have := hB.size; rw [HH.out] at this; exact this))⟩
                · have t0 : decide ((i : Int) < (N : Int)) = false := by simp; omega
                  go_wp2_with fail
                  go_ret
                  exact ⟨ret_val (by rw [hR.out]; rfl), by rw [HH.out]; exact hB.trans (hb.mono (by have := hB.size; rw [HH.out] at this; exact this))⟩
  · have t0 : (K != K') = true := by rw [bne_iff_ne]; exact hk
    have HR := Lib.hid (HR0.out hk)
    clear hk
    go_enter Tryz.func27, Tryz.ntmps27
    go_upto_region 1 with (fail)
    rw [HH.out]
    generalize (w.alloc (.cells #[.int .i64 K, .int .i64 X, .float .f64 fa, .string S, .slice pp M pc, .slice p N cap] 44)).alloc (.cells #[.int .i64 K', .int .i64 X', .float .f64 fb, .string S', .slice pp' M' pc', .slice p' N' cap'] 44) = W1 at *
    have nA := (HBl.out _ (Below.refl _ _)).1; have nB := (HBl.out _ (Below.refl _ _)).2
    have a0 : W1.cell? ⟨H, 0, none⟩ = some (.int .i64 K) := by rw [Lib.cell_of_heap nA]; rfl
    have b0 : W1.cell? ⟨H + 1, 0, none⟩ = some (.int .i64 K') := by rw [Lib.cell_of_heap nB]; rfl
    have a1 : W1.cell? ⟨H, 1, none⟩ = some (.int .i64 X) := by rw [Lib.cell_of_heap nA]; rfl
    have b1 : W1.cell? ⟨H + 1, 1, none⟩ = some (.int .i64 X') := by rw [Lib.cell_of_heap nB]; rfl
    have a2 : W1.cell? ⟨H, 2, none⟩ = some (.float .f64 fa) := by rw [Lib.cell_of_heap nA]; rfl
    have b2 : W1.cell? ⟨H + 1, 2, none⟩ = some (.float .f64 fb) := by rw [Lib.cell_of_heap nB]; rfl
    have a3 : W1.cell? ⟨H, 3, none⟩ = some (.string S) := by rw [Lib.cell_of_heap nA]; rfl
    have b3 : W1.cell? ⟨H + 1, 3, none⟩ = some (.string S') := by rw [Lib.cell_of_heap nB]; rfl
    have a4 : W1.cell? ⟨H, 4, none⟩ = some (.slice pp M pc) := by rw [Lib.cell_of_heap nA]; rfl
    have b4 : W1.cell? ⟨H + 1, 4, none⟩ = some (.slice pp' M' pc') := by rw [Lib.cell_of_heap nB]; rfl
    have a5 : W1.cell? ⟨H, 5, none⟩ = some (.slice p N cap) := by rw [Lib.cell_of_heap nA]; rfl
    have b5 : W1.cell? ⟨H + 1, 5, none⟩ = some (.slice p' N' cap') := by rw [Lib.cell_of_heap nB]; rfl
    clear nA nB
    go_wp2_with (go_at_call 40; refine (HS.out _ _ _).mono ?_; rintro e w' ⟨rfl, rfl⟩)
    go_ret
    exact ⟨ret_val (by rw [HR.out]; rfl), by rw [HH.out]; exact hB⟩
theorem rOrder_any : ∀ (d d2 : Nat) (a b : VT) (ca cb : Array Value) (w : World), ValAt w d a ca → ValAt w d2 b cb → Calls Tryz.prog 27 #[.agg ca, .agg cb] w (Gives (.int .i64 (ordV a b)) w)
  | 0, _, _, _, _, _, _, ha, _ => ha.elim
  | _ + 1, 0, _, _, _, _, _, _, hb => hb.elim
  | d + 1, d2 + 1, a, b, ca, cb, w, ha, hb => rOrder_step d d2 a b ca cb w (fun d2 a b ca cb w => rOrder_any d d2 a b ca cb w) ha hb
end
section
open Go.RowKit
theorem below_tr' {u v w : World} (h1 : Below u.heap.size u v) (h2 : Below v.heap.size v w) : Below u.heap.size u w := h1.trans (h2.mono h1.size)
theorem drewN_below (w : World) (q : Nat) : Below w.heap.size w (w.drewN q) := ⟨rfl, rfl, rfl, Nat.le_refl _, fun _ _ => rfl⟩
end
section
open Go.RowKit
/-- are two values the same? -/
def sameV (a b : VT) : Bool := decide (ordV a b = 0)
set_option maxRecDepth 100000 in
set_option maxHeartbeats 4000000 in
theorem rSame_any (d d2 : Nat) (a b : VT) (ca cb : Array Value) (w : World) (ha : ValAt w d a ca) (hb : ValAt w d2 b cb) : Calls Tryz.prog 12 #[.agg ca, .agg cb] w (Gives (.bool (sameV a b)) w) := by
  obtain ⟨pp, pc, p, cap, rfl⟩ := ha.sixS
  obtain ⟨pp', pc', p', cap', rfl⟩ := hb.sixS
  have hB1 : Below w.heap.size w (w.alloc (.cells #[.int .i64 a.kind, .int .i64 a.num, .float .f64 a.flt, .string ⟨a.str.toArray⟩, .slice pp a.names.length pc, .slice p a.items.length cap] 44)) := (Below.refl _ _).alloc (Nat.le_refl _) _
  have hB := hB1.alloc (o := .cells #[.int .i64 b.kind, .int .i64 b.num, .float .f64 b.flt, .string ⟨b.str.toArray⟩, .slice pp' b.names.length pc', .slice p' b.items.length cap'] 44) hB1.size
  have HC := Lib.hid (rOrder_any d d2 a b _ _ _ (ha.kept hB) (hb.kept hB))
  have hS := sameV.eq_def a b
  clear ha hb hB1
  generalize (⟨a.str.toArray⟩ : ByteArray) = S at *
  generalize (⟨b.str.toArray⟩ : ByteArray) = S' at *
  generalize ordV a b = c at *
  generalize sameV a b = R at *
  by_cases hc : c = 0
  · have t0 : (c == 0) = true := by rw [hc]; rfl
    rw [decide_eq_true hc] at hS
    have HS := Lib.hid hS
    clear hc hS
    go_enter Tryz.func12, Tryz.ntmps12
    go_wp2_with fail
    refine (HC.out).mono ?_; rintro e w2 ⟨rfl, hb2⟩
    go_wp2_with fail
    go_ret
    exact ⟨ret_val (by rw [HS.out]; rfl), hB.trans (hb2.mono hB.size)⟩
  · have t0 : (c == 0) = false := beq_eq_false_iff_ne.2 hc
    rw [decide_eq_false hc] at hS
    have HS := Lib.hid hS
    clear hc hS
    go_enter Tryz.func12, Tryz.ntmps12
    go_wp2_with fail
    refine (HC.out).mono ?_; rintro e w2 ⟨rfl, hb2⟩
    go_wp2_with fail
    go_ret
    exact ⟨ret_val (by rw [HS.out]; rfl), hB.trans (hb2.mono hB.size)⟩
end
section
open Go
mutual
theorem ordV_same : ∀ (a b : VT), canV a = canV b → ordV a b = 0
  | .mk k n f s ns its, .mk k' n' f' s' ns' its', h => by
    rw [canV, canV] at h
    simp only [VT.mk.injEq] at h
    obtain ⟨rfl, rfl, hf, rfl, rfl, hi⟩ := h
    have hl := ordL_same its its' hi
    rw [ordV, if_pos rfl, sgnI_self, txtO_self, rowsO_self, if_pos rfl, if_pos rfl, if_pos rfl, hl, ordB_can hf]
    repeat' split
    all_goals rfl
theorem ordL_same : ∀ (l m : List VT), canL l = canL m → ordL l m = 0
  | [], [], _ => by rw [ordL]; rfl
  | [], y :: m, h => by rw [canL, canL] at h; cases h
  | x :: l, [], h => by rw [canL, canL] at h; cases h
  | x :: l, y :: m, h => by
    rw [canL, canL] at h
    simp only [List.cons.injEq] at h
    rw [ordL, ordV_same x y h.1, if_pos rfl]
    exact ordL_same l m h.2
end
theorem sameV_can {a b : VT} (h : canV a = canV b) : sameV a b = true := by
  unfold sameV; rw [ordV_same a b h]; rfl
end
section
open Go.RowKit
/-- two lists of values, one by one -/
def sameL : List VT → List VT → Bool
  | [], [] => true
  | a :: l, b :: m => sameV a b && sameL l m
  | _, _ => false
theorem sameL_len : ∀ {a b : List VT}, a.length ≠ b.length → sameL a b = false
  | [], [], h => absurd rfl h
  | [], _ :: _, _ => rfl
  | _ :: _, [], _ => rfl
  | x :: a, y :: b, h => by rw [sameL, sameL_len (a := a) (b := b) (fun e => h (by simp [e]))]; simp
theorem drop_getDV {l : List VT} {i : Nat} (h : i < l.length) : l.drop i = l.getD i noVT :: l.drop (i + 1) := by
  rw [List.drop_eq_getElem_cons h]
  simp [List.getD, h]
theorem sameL_step {a b : List VT} {i : Nat} (h1 : i < a.length) (h2 : i < b.length) : sameL (a.drop i) (b.drop i) = (sameV (a.getD i noVT) (b.getD i noVT) && sameL (a.drop (i + 1)) (b.drop (i + 1))) := by
  rw [drop_getDV h1, drop_getDV h2, sameL]
theorem sameL_end {a b : List VT} {i : Nat} (h1 : a.length ≤ i) (h2 : b.length ≤ i) : sameL (a.drop i) (b.drop i) = true := by
  rw [List.drop_eq_nil_of_le h1, List.drop_eq_nil_of_le h2, sameL]
set_option maxRecDepth 100000 in
set_option maxHeartbeats 2000000 in
theorem r20Same_any (d d2 : Nat) (its its' : List VT) (p p' : Option Addr) (cap cap' : Nat) (w : World)
    (hN : its.length ≤ 140737488355328)
    (ha : ∀ i, i < its.length → ∃ g off, p = some ⟨g, off, none⟩ ∧ g < w.heap.size ∧ ∃ ds, ValAt w d (its.getD i noVT) ds ∧ ∀ j, j < 6 → w.cell? ⟨g, off + i * 6 + j, none⟩ = ds[j]?)
    (hb : ∀ i, i < its'.length → ∃ g off, p' = some ⟨g, off, none⟩ ∧ g < w.heap.size ∧ ∃ ds, ValAt w d2 (its'.getD i noVT) ds ∧ ∀ j, j < 6 → w.cell? ⟨g, off + i * 6 + j, none⟩ = ds[j]?) :
    Calls Tryz.prog 9 #[.slice p its.length cap, .slice p' its'.length cap'] w (Gives (.bool (sameL its its')) w) := by
  by_cases hlen : its.length = its'.length
  case neg =>
    rw [sameL_len hlen]
    generalize its.length = N at *
    generalize its'.length = M at *
    have tN : ((N : Int) != (M : Int)) = true := by rw [bne_iff_ne]; omega
    clear hlen ha hb
    go_enter Tryz.func9, Tryz.ntmps9
    go_wp2_with fail
    go_ret
    exact ⟨rfl, Below.refl _ _⟩
  have HIA := Lib.hid (fun i (hi : i < its.length) x (h : Below w.heap.size w x) => (show ∃ g off ds, p = some ⟨g, off, none⟩ ∧ g < w.heap.size ∧ ValAt x d (its.getD i noVT) ds ∧ x.cell? ⟨g, off + i * 6, none⟩ = ds[0]? ∧ x.cell? ⟨g, off + i * 6 + 1, none⟩ = ds[1]? ∧ x.cell? ⟨g, off + i * 6 + 2, none⟩ = ds[2]? ∧ x.cell? ⟨g, off + i * 6 + 3, none⟩ = ds[3]? ∧ x.cell? ⟨g, off + i * 6 + 4, none⟩ = ds[4]? ∧ x.cell? ⟨g, off + i * 6 + 5, none⟩ = ds[5]? from by
    obtain ⟨g, off, h1, h2, ds, h3, h4⟩ := ha i hi
    have hc := fun j (hj : j < 6) => (h.cell (p := ⟨g, off + i * 6 + j, none⟩) h2).trans (h4 j hj)
    exact ⟨g, off, ds, h1, h2, h3.kept h, hc 0 (by omega), hc 1 (by omega), hc 2 (by omega), hc 3 (by omega), hc 4 (by omega), hc 5 (by omega)⟩))
  have HIB := Lib.hid (fun i (hi : i < its'.length) x (h : Below w.heap.size w x) => (show ∃ g off ds, p' = some ⟨g, off, none⟩ ∧ g < w.heap.size ∧ ValAt x d2 (its'.getD i noVT) ds ∧ x.cell? ⟨g, off + i * 6, none⟩ = ds[0]? ∧ x.cell? ⟨g, off + i * 6 + 1, none⟩ = ds[1]? ∧ x.cell? ⟨g, off + i * 6 + 2, none⟩ = ds[2]? ∧ x.cell? ⟨g, off + i * 6 + 3, none⟩ = ds[3]? ∧ x.cell? ⟨g, off + i * 6 + 4, none⟩ = ds[4]? ∧ x.cell? ⟨g, off + i * 6 + 5, none⟩ = ds[5]? from by
    obtain ⟨g, off, h1, h2, ds, h3, h4⟩ := hb i hi
    have hc := fun j (hj : j < 6) => (h.cell (p := ⟨g, off + i * 6 + j, none⟩) h2).trans (h4 j hj)
    exact ⟨g, off, ds, h1, h2, h3.kept h, hc 0 (by omega), hc 1 (by omega), hc 2 (by omega), hc 3 (by omega), hc 4 (by omega), hc 5 (by omega)⟩))
  have HStep := Lib.hid (fun i (h1 : i < its.length) h2 => sameL_step (a := its) (b := its') (i := i) h1 h2)
  have HEnd := Lib.hid (fun i (h1 : its.length ≤ i) h2 => sameL_end (a := its) (b := its') (i := i) h1 h2)
  have h0 : Hid (sameL its its' = sameL (its.drop 0) (its'.drop 0)) := by show _ = _; rw [List.drop_zero, List.drop_zero]
  clear ha hb
  rw [← hlen] at HIB HStep HEnd ⊢
  clear hlen
  generalize its.length = N at *
  generalize sameL its its' = R at *
  have tN : ((N : Int) != (N : Int)) = false := by simp
  go_enter Tryz.func9, Tryz.ntmps9
  go_wp2_with fail
  go_loopw [5] (fun iv wr => ∃ i : Nat, iv = .int .i64 (i : Int) ∧ i ≤ N ∧ Hid (R = sameL (its.drop i) (its'.drop i)) ∧ Below w.heap.size w wr) (fun iv _ => N - (intOf iv).toNat)
  case atStart => exact ⟨0, rfl, Nat.zero_le _, h0, Below.refl _ _⟩
  case round =>
    clear h0
    obtain ⟨i, rfl, hi, hR, hb⟩ := hrel
    by_cases hlt : i < N
    · have t0 : decide ((i : Int) < (N : Int)) = true := by simp; omega
      obtain ⟨g, off, ds, rfl, _, hva, x0, x1, x2, x3, x4, x5⟩ := HIA.out i hlt wr hb
      obtain ⟨g', off', ds', rfl, _, hvb, y0, y1, y2, y3, y4, y5⟩ := HIB.out i hlt wr hb
      have hst := HStep.out i hlt hlt
      generalize its.getD i noVT = va at *
      generalize its'.getD i noVT = vb at *
      have HS := rSame_any d d2 va vb _ _ wr.drew (hva.kept ((Below.refl _ _).drew)) (hvb.kept ((Below.refl _ _).drew))
      obtain ⟨q1, r1, s1, v1, rfl⟩ := hva.sixS
      obtain ⟨q2, r2, s2, v2, rfl⟩ := hvb.sixS
      simp at x0 x1 x2 x3 x4 x5
      simp at y0 y1 y2 y3 y4 y5
      generalize sameV va vb = c' at *
      have HST := Lib.hid hst; clear hst
      have HSS := Lib.hid HS; clear HS hva hvb
      have i1 : (0 : Int) ≤ (i : Int) := by omega
      have i2 : (i : Int) < (N : Int) := by omega
      cases c' with
      | true =>
        go_wp2_with fail
        refine wp_still_tailG 8 (by kernel_rfl) (by kernel_rfl) ?_
        simp only [List.take_succ_cons, List.take_zero, List.drop_succ_cons, List.drop_zero]
        iterate 8 (refine StillG.step (fun K hK => ?_); go_simp; refine hK _ ?_; clear hK K)
        refine StillG.nil ?_
        go_wp2_with fail
        refine (HSS.out).mono ?_; rintro e w3 ⟨rfl, hb3⟩
        go_wp2_with fail
        go_roundw
        case rel => exact ⟨i + 1, by go_num, by omega, by show _ = _; rw [hR.out, HST.out]; rfl, hb.trans ((undrew hb3).mono hb.size)⟩
        case measure => simp [intOf]; omega
      | false =>
        go_wp2_with fail
        refine wp_still_tailG 8 (by kernel_rfl) (by kernel_rfl) ?_
        simp only [List.take_succ_cons, List.take_zero, List.drop_succ_cons, List.drop_zero]
        iterate 8 (refine StillG.step (fun K hK => ?_); go_simp; refine hK _ ?_; clear hK K)
        refine StillG.nil ?_
        go_wp2_with fail
        refine (HSS.out).mono ?_; rintro e w3 ⟨rfl, hb3⟩
        go_wp2_with fail
        go_ret
        exact ⟨ret_val (by rw [hR.out, HST.out]; rfl), hb.trans ((undrew hb3).mono hb.size)⟩
    · have t0 : decide ((i : Int) < (N : Int)) = false := by simp; omega
      have HE := Lib.hid (HEnd.out i (by omega) (by omega))
      go_wp2_with fail
      go_ret
      exact ⟨ret_val (by rw [hR.out, HE.out]; rfl), hb⟩
end
section
open Go.RowKit
theorem zero_VTb : (Tryz.prog.info? 44).map (fun i => (i.zero, i.size, i.bytes)) = some (some (.agg #[.int .i64 0, .int .i64 0, .float .f64 0, .string ⟨#[]⟩, .slice none 0 0, .slice none 0 0]), 6, 88) := by kernel_rfl
end
end Go.Proofs.YtkbcdlabfbonoaaGreatDoor
