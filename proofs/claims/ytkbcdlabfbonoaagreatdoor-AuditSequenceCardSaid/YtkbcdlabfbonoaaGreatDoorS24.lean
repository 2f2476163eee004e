/-
  Lb4 in one text.
-/
import Derived.Below
import Derived.BigFrame
import Derived.Deep.Cut
import Derived.Deep.DeepCutAuto
import Derived.Deep.MidRow
import Derived.Deep.QuietTactic
import Derived.Deep.RegionHeld3
import Derived.IntWalk
import Derived.KernelRfl
import Derived.Laws.Rows
import Derived.Laws.Unary
import Derived.Lib.Builder
import Derived.Lib.Hide
import Derived.Lib.MinMax
import Derived.LoopTactic
import Derived.OneCell
import Derived.OwnWalk
import Derived.ProofKit
import Derived.RegionTactic
import Derived.Scope
import Derived.Tactics
import Derived.Test.YtkbcdlabfbonoaaGreatDoorChecked
import Derived.Test.YtkbcdlabfbonoaaGreatDoorEv3
import Derived.Test.YtkbcdlabfbonoaaGreatDoorS01
import Derived.Test.YtkbcdlabfbonoaaGreatDoorS04
import Derived.Test.YtkbcdlabfbonoaaGreatDoorS05
import Derived.Test.YtkbcdlabfbonoaaGreatDoorS06
import Derived.Test.YtkbcdlabfbonoaaGreatDoorS12
import Derived.Test.YtkbcdlabfbonoaaGreatDoorS18
import Derived.Test.YtkbcdlabfbonoaaGreatDoorS19
import Derived.Test.YtkbcdlabfbonoaaGreatDoorS20
import Derived.Test.YtkbcdlabfbonoaaGreatDoorS21
import Derived.Test.YtkbcdlabfbonoaaGreatDoorS22
import Derived.Test.YtkbcdlabfbonoaaGreatDoorS23
namespace Go.Proofs.YtkbcdlabfbonoaaGreatDoor
open Go.RowKit
theorem wpList_build {P : Program} {ops : Array Oper} {rest : List Oper} {o : Oper} {a : Act} {Q : Exit → Act → World → Prop} {w : World} {v : Value} {t : TypeId} {fs : Array (Nat × Operand)} (_ : o.op = .build t fs) (hg : o.guard = none) (hr : (execOp a.eval o).run P w = .ok (.value v) w) (h : wpList P ops Q rest (a.put o.dst v) w) : wpList P ops Q (o :: rest) a w := wpList_do hg hr h
theorem results_ct {P : Program} {fn : Func} {p q n : Nat} {ty : TypeId} (h : fn.results = #[.cell p ty, .tmp q]) (tmps : Array Value) (w : World) (g : Nat) (T : TypeId) (cs : Array Value) (z : Nat × Nat) (v : Value) (hp : tmps.getD p undef = .pointer (some ⟨g, 0, none⟩)) (hv : tmps.getD q undef = v)
    (ha : Ev.isAgg P ty = some true) (hs : Ev.sizeOf P ty = some n) (hb : w.heap[g]? = some (.cells cs T z)) (hn : cs.size = n) : (results fn tmps).run P w = .ok (.tuple #[.agg cs, v]) w := by
  have hp' : tmps[p]?.getD undef = .pointer (some ⟨g, 0, none⟩) := by simpa using hp
  have hv' : tmps[q]?.getD undef = v := by simpa using hv
  have hl := run_loadRow (P := P) ha hs hb hn
  simp [results, h, hp', hv', asAddr, hl]
def leZ (n : Int) : Array Value := (.int .i64 n :: List.replicate 64 (.bool false)).toArray
set_option maxRecDepth 100000 in
theorem leZ_size (n : Int) : (leZ n).size = 65 := rfl
theorem leZ_at {n : Nat} (hn : n ≤ 8) : LeV n (diagR 0) (leZ (n : Int)) := by
  refine ⟨leZ_size _, hn, rfl, fun a c ha hc => ?_⟩
  rw [← Array.getElem?_toList]
  have e : (leZ (n : Int)).toList = .int .i64 n :: List.replicate 64 (.bool false) := rfl
  rw [e, show 1 + a * 8 + c = (a * 8 + c) + 1 by omega, List.getElem?_cons_succ, List.getElem?_replicate_of_lt (by omega)]
  rw [diagR_zero]
theorem zc_eq : Tryz.zeroCells33 = leZ 0 := by kernel_rfl
theorem zc_size : (Tryz.zeroCells33).size = 65 := by rw [zc_eq]; exact leZ_size 0
theorem zc_at : LeV 0 (fun _ _ => false) Tryz.zeroCells33 := by rw [zc_eq, ← diagR_zero]; exact leZ_at (n := 0) (by omega)
theorem zc_one : ∀ u ∈ (Tryz.zeroCells33).toList, u.oneCell' = true := zc_at.one
theorem set_of {le le' : Rel} {a c x y : Nat} (h : le' x y = (le x y || (Nat.beq x a && Nat.beq y c))) : le' x y = if x = a ∧ y = c then true else le x y := by
  rw [h]
  by_cases e : x = a ∧ y = c
  · obtain ⟨rfl, rfl⟩ := e
    rw [if_pos ⟨rfl, rfl⟩, Nat.beq_refl, Nat.beq_refl]; simp
  · rw [if_neg e]
    cases h1 : Nat.beq x a with
    | false => simp
    | true =>
      cases h2 : Nat.beq y c with
      | false => simp
      | true => exact absurd ⟨Nat.eq_of_beq_eq_true h1, Nat.eq_of_beq_eq_true h2⟩ e
theorem keepQ {B n : Nat} {le : Rel} {w wr : World} {Z : Obj} {j : Nat} {v : Value} (hz : wr.heap[B]? = some Z) (hb : Below B w wr) (hl : LeAt (B + 1) n le (wr.setCell ⟨B + 1, j, none⟩ v)) : LeAt (B + 1) n le (wr.setCell ⟨B + 1, j, none⟩ v) ∧ (wr.setCell ⟨B + 1, j, none⟩ v).heap[B]? = some Z ∧ Below B w (wr.setCell ⟨B + 1, j, none⟩ v) :=
  ⟨hl, ((Fr.refl [B + 1] wr).setCell ⟨B + 1, j, none⟩ (by simp) v).at hz (by simp), hb.setCell (p := ⟨B + 1, j, none⟩) (by show B ≤ B + 1; omega) _⟩
/-- what Make leaves -/
def MqPost (n : Int) (l : List (Int × Int)) (w : World) (e : Ending) (w' : World) : Prop :=
  Below w.heap.size w w' ∧ ∃ cs, e = .returned (.tuple #[.agg cs, .int .i64 (makeE n l)]) ∧ ((makeE n l = 0 ∧ LeV n.toNat (War (pairR n.toNat l) n.toNat) cs) ∨ (makeE n l ≠ 0 ∧ LeV 0 (fun _ _ => false) cs))
theorem MqPost.bad {n : Int} {l : List (Int × Int)} {w w' : World} {e : Int} (h : makeE n l = e) (he : e ≠ 0) (hb : Below w.heap.size w w') : MqPost n l w (.returned (.tuple #[.agg Tryz.zeroCells33, .int .i64 e])) w' :=
  ⟨hb, _, by rw [h], .inr ⟨by rw [h]; exact he, zc_at⟩⟩
set_option maxRecDepth 100000 in
set_option maxHeartbeats 4000000 in
theorem rMake_bad (n : Int) (p : Option Addr) (N c : Nat) (l : List (Int × Int)) (hN : l.length = N) (hb : n < 1 ∨ 8 < n ∨ 64 < N) (w : World) : Calls Tryz.prog 7 #[.int .i64 n, .slice p N c] w (MqPost n l w) := by
  have hz := heap_alloc_new w (.cells Tryz.zeroCells33 33)
  have f0 := (Below.refl w.heap.size w).alloc (Nat.le_refl _) (.cells Tryz.zeroCells33 33)
  generalize hW1 : w.alloc (.cells Tryz.zeroCells33 33) = W1 at *
  have HW1 := Lib.hid hW1
  have HE := Lib.hid (fun w' (k : Below w.heap.size W1 w') => (show MqPost n l w (.returned (.tuple #[.agg Tryz.zeroCells33, .int .i64 2])) w' from .bad (makeE_bad (by rw [hN]; exact hb)) (by decide) (f0.trans k)))
  clear hN hW1 f0
  by_cases h1 : n < 1
  · have t1 : decide (n < 1) = true := by simpa using h1
    go_enter Tryz.func7, Tryz.ntmps7
    go_upto_region 1 with (fail)
    rw [HW1.out]
    go_wp2_with (first | (refine wpList_build rfl rfl (v := .agg (Tryz.zeroCells33)) (by kernel_rfl) ?_) | (refine wpList_rown rfl rfl rfl rfl rfl (n := 65) (by kernel_rfl) hz zc_size rfl zc_one ?_; intro wn hgn FFn))
    refine bodyPost_ret (v := .tuple #[.agg Tryz.zeroCells33, .int .i64 2]) (results_ct rfl _ _ _ _ _ _ _ rfl rfl (by kernel_rfl) (n := 65) (by kernel_rfl) hgn zc_size) rfl ?_
    exact HE.out _ (FFn.below (by have := lt_of_block hz; omega) (by simp))
  · have t1 : decide (n < 1) = false := by simpa using h1
    by_cases h2 : 8 < n
    · have t2 : decide (8 < n) = true := by simpa using h2
      go_enter Tryz.func7, Tryz.ntmps7
      go_upto_region 1 with (fail)
      rw [HW1.out]
      go_wp2_with (first | (refine wpList_build rfl rfl (v := .agg (Tryz.zeroCells33)) (by kernel_rfl) ?_) | (refine wpList_rown rfl rfl rfl rfl rfl (n := 65) (by kernel_rfl) hz zc_size rfl zc_one ?_; intro wn hgn FFn))
      refine bodyPost_ret (v := .tuple #[.agg Tryz.zeroCells33, .int .i64 2]) (results_ct rfl _ _ _ _ _ _ _ rfl rfl (by kernel_rfl) (n := 65) (by kernel_rfl) hgn zc_size) rfl ?_
      exact HE.out _ (FFn.below (by have := lt_of_block hz; omega) (by simp))
    · have t2 : decide (8 < n) = false := by simpa using h2
      have t3 : decide ((64 : Int) < (N : Int)) = true := by simp; omega
      go_enter Tryz.func7, Tryz.ntmps7
      go_upto_region 1 with (fail)
      rw [HW1.out]
      go_wp2_with (first | (refine wpList_build rfl rfl (v := .agg (Tryz.zeroCells33)) (by kernel_rfl) ?_) | (refine wpList_rown rfl rfl rfl rfl rfl (n := 65) (by kernel_rfl) hz zc_size rfl zc_one ?_; intro wn hgn FFn))
      refine bodyPost_ret (v := .tuple #[.agg Tryz.zeroCells33, .int .i64 2]) (results_ct rfl _ _ _ _ _ _ _ rfl rfl (by kernel_rfl) (n := 65) (by kernel_rfl) hgn zc_size) rfl ?_
      exact HE.out _ (FFn.below (by have := lt_of_block hz; omega) (by simp))
set_option maxRecDepth 100000 in
set_option maxHeartbeats 4000000 in
theorem rMake_good (n : Nat) (v : Value) (l : List (Int × Int)) (w : World) (hv : PairsAt w l v) (hn : 1 ≤ n ∧ n ≤ 8 ∧ l.length ≤ 64) : Calls Tryz.prog 7 #[.int .i64 (n : Int), v] w (MqPost (n : Int) l w) := by
  have HP := Lib.hid hv
  obtain ⟨p, c, rfl, _, _⟩ := hv
  obtain ⟨hn1, hn8, hl64⟩ := hn
  have hok : ¬ ((n : Int) < 1 ∨ 8 < (n : Int) ∨ 64 < l.length) := by omega
  have HOut := Lib.hid (fun (h : l.all (inP n) = false) => makeE_out hok h)
  have HIn := Lib.hid (fun (h : l.all (inP n) = true) => makeE_in hok h)
  have t1 : decide ((n : Int) < 1) = false := by simp; omega
  have t2 : decide ((8 : Int) < (n : Int)) = false := by simp; omega
  have t3 : decide ((64 : Int) < (l.length : Int)) = false := by simp; omega
  have hz := heap_alloc_new w (.cells Tryz.zeroCells33 33)
  have hsz : (w.alloc (.cells Tryz.zeroCells33 33)).heap.size = w.heap.size + 1 := by simp
  have f0 := (Below.refl w.heap.size w).alloc (Nat.le_refl _) (.cells Tryz.zeroCells33 33)
  generalize hW1 : w.alloc (.cells Tryz.zeroCells33 33) = W1 at *
  have HW1 := Lib.hid hW1
  have HSz := Lib.hid hsz
  generalize hB : w.heap.size = B at *
  have HB := Lib.hid hB
  clear hok hW1 hB hsz
  go_enter Tryz.func7, Tryz.ntmps7
  go_upto_region 1 with (fail)
  rw [HW1.out]
  try rw [HB.out]
  go_upto_region 3 with (fail)
  refine wp_region_list ?_
  refine wpList_do rfl (v := .int .i64 (n : Int)) (w' := W1) rfl ?_
  refine wpList_build rfl rfl (v := .agg (leZ (n : Int))) (by kernel_rfl) ?_
  refine wpList_do rfl (v := .pointer (some ⟨W1.heap.size, 0, none⟩)) (w' := W1.alloc (.cells Tryz.zeroCells33 33)) (by kernel_rfl) ?_
  refine wpList_rown rfl rfl rfl rfl rfl (n := 65) (by kernel_rfl) (heap_alloc_new _ _) (leZ_size _) zc_size (leZ_at hn8).one ?_; intro wn hgn FFn
  simp only [Act.put, List.setIfInBounds_toArray, List.set_cons_zero, List.set_cons_succ]
  have hA : Fr [W1.heap.size] W1 wn := ((Fr.refl [W1.heap.size] W1).alloc _).trans FFn
  have h0 : LeAt W1.heap.size n (diagR 0) wn := ⟨_, hgn, leZ_at hn8⟩
  have hz := hA.at hz (by rw [HSz.out]; simp)
  have f0 : Below B w wn := f0.trans (hA.below (by rw [HSz.out]; omega) (by rw [HSz.out]; simp))
  clear hA FFn hgn
  rw [HSz.out] at h0 ⊢
  go_wp2_with fail
  go_loopw [7] (fun iv wr => ∃ a : Nat, iv = .int .i64 (a : Int) ∧ a ≤ n ∧ Hid (LeAt (B + 1) n (diagR a) wr ∧ wr.heap[B]? = some (.cells Tryz.zeroCells33 33 (0, 0)) ∧ Below B w wr ∧ True)) (fun iv _ => n - (intOf iv).toNat)
  case atStart => exact ⟨0, rfl, Nat.zero_le _, Lib.hid ⟨h0, hz, f0, trivial⟩⟩
  case round =>
    clear h0 hz f0
    obtain ⟨a, rfl, ha, hq⟩ := hrel
    by_cases hal : a < n
    · have t4 : decide ((a : Int) < (n : Int)) = true := by simp; omega
      have ha8 : a < 8 := by omega
      have k1 : (a : Int) < 8 := by omega
      have cU := hq.out.1.cell ha8 ha8
      have fU := hq.out.1.free (1 + a * 8 + a)
      have hset := hq.out.1.set (le' := diagR (a + 1)) ha8 ha8 (fun x y => set_of (diagR_step a x y))
      have HQ := Lib.hid (keepQ hq.out.2.1 hq.out.2.2.1 hset)
      clear hset
      go_wp2_with fail
      go_roundw
      case rel => exact ⟨a + 1, by go_num, by omega, Lib.hid ⟨HQ.out.1, HQ.out.2.1, HQ.out.2.2, trivial⟩⟩
      case measure => simp [intOf]; omega
    · have t4 : decide ((a : Int) < (n : Int)) = false := by simp; omega
      obtain rfl : n = a := by omega
      have hq2 := hq.out
      rw [diagR_all] at hq2
      have HQ := Lib.hid hq2
      clear hq hq2 t1 t2 t3
      generalize hN : l.length = N at *
      go_wp2_with fail
      go_loopw [8] (fun iv wx => ∃ i : Nat, iv = .int .i64 (i : Int) ∧ i ≤ N ∧ Hid (LeAt (B + 1) n (pairR n (l.take i)) wx ∧ wx.heap[B]? = some (.cells Tryz.zeroCells33 33 (0, 0)) ∧ Below B w wx ∧ (l.take i).all (inP n) = true)) (fun iv _ => N - (intOf iv).toNat)
      case atStart => exact ⟨0, rfl, Nat.zero_le _, Lib.hid ⟨HQ.out.1, HQ.out.2.1, HQ.out.2.2.1, rfl⟩⟩
      case round =>
        clear HQ
        obtain ⟨i, rfl, hi, hq⟩ := hrel
        by_cases hil : i < N
        · have t5 : decide ((i : Int) < (N : Int)) = true := by simp; omega
          have hlt : i < l.length := by omega
          obtain ⟨x, hx⟩ : ∃ x, l[i]? = some x := ⟨_, List.getElem?_eq_getElem hlt⟩
          have hpp := HP.out.kept (hq.out.2.2.1.mono (Nat.le_of_eq HB.out))
          obtain ⟨g, off, rfl, hg, x0, x1⟩ := hpp.item hx
          clear hpp
          obtain ⟨p0, p1⟩ := x
          dsimp only at x0 x1
          have y0 : wr.drew.cell? ⟨g, off + i * 2, none⟩ = _ := x0
          have y1 : wr.drew.cell? ⟨g, off + i * 2 + 1, none⟩ = _ := x1
          have HNo := Lib.hid (fun (k : inP n (p0, p1) = false) => HOut.out (all_no hx k))
          have HYes := Lib.hid (fun (k : inP n (p0, p1) = true) => all_take hx hq.out.2.2.2 k)
          have hTk : l.take (i + 1) = l.take i ++ [(p0, p1)] := by rw [List.take_add_one, hx]; rfl
          have i0 : (0 : Int) ≤ (i : Int) := by omega
          have HQ := Lib.hid hq.out
          clear hq
          go_upto_region 11 with (fail)
          go_region
          all_goals (
            have hL := HQ.out.1.drew
            have hz : wr.drew.heap[B]? = some (.cells Tryz.zeroCells33 33 (0, 0)) := HQ.out.2.1
            have hbw := HQ.out.2.2.1.drew
            clear y0 y1 x0 x1
            generalize wr.drew = V at *
            have HE := Lib.hid (fun (k : inP n (p0, p1) = false) w' (kb : Below B V w') => (show MqPost (n : Int) l w (.returned (.tuple #[.agg Tryz.zeroCells33, .int .i64 2])) w' from .bad (HNo.out k) (by decide) (by rw [HB.out]; exact hbw.trans kb)))
            by_cases q1 : p0 < 0
            · have t6 : decide (p0 < 0) = true := by simpa using q1
              have HE := Lib.hid (HE.out (by simp [inP]; omega))
              clear hL hbw
              go_wp2_with (first | (refine wpList_build rfl rfl (v := .agg (Tryz.zeroCells33)) (by kernel_rfl) ?_) | (refine wpList_rown rfl rfl rfl rfl rfl (n := 65) (by kernel_rfl) hz zc_size rfl zc_one ?_; intro wn hgn FFn))
              refine bodyPost_ret (v := .tuple #[.agg Tryz.zeroCells33, .int .i64 2]) (results_ct rfl _ _ _ _ _ _ _ rfl rfl (by kernel_rfl) (n := 65) (by kernel_rfl) hgn zc_size) rfl ?_
              exact HE.out _ (FFn.below (by have := lt_of_block hz; omega) (by simp))
            · have t6 : decide (p0 < 0) = false := by simpa using q1
              obtain ⟨a0, rfl⟩ := Int.eq_ofNat_of_zero_le (show 0 ≤ p0 by omega)
              by_cases q2 : n ≤ a0
              · have t7 : decide ((a0 : Int) ≥ (n : Int)) = true := by simp; omega
                have HE := Lib.hid (HE.out (by simp [inP]; omega))
                clear hL hbw
                go_wp2_with (first | (refine wpList_build rfl rfl (v := .agg (Tryz.zeroCells33)) (by kernel_rfl) ?_) | (refine wpList_rown rfl rfl rfl rfl rfl (n := 65) (by kernel_rfl) hz zc_size rfl zc_one ?_; intro wn hgn FFn))
                refine bodyPost_ret (v := .tuple #[.agg Tryz.zeroCells33, .int .i64 2]) (results_ct rfl _ _ _ _ _ _ _ rfl rfl (by kernel_rfl) (n := 65) (by kernel_rfl) hgn zc_size) rfl ?_
                exact HE.out _ (FFn.below (by have := lt_of_block hz; omega) (by simp))
              · have t7 : decide ((a0 : Int) ≥ (n : Int)) = false := by simp; omega
                by_cases q3 : p1 < 0
                · have t8 : decide (p1 < 0) = true := by simpa using q3
                  have HE := Lib.hid (HE.out (by simp [inP]; omega))
                  clear hL hbw
                  go_wp2_with (first | (refine wpList_build rfl rfl (v := .agg (Tryz.zeroCells33)) (by kernel_rfl) ?_) | (refine wpList_rown rfl rfl rfl rfl rfl (n := 65) (by kernel_rfl) hz zc_size rfl zc_one ?_; intro wn hgn FFn))
                  refine bodyPost_ret (v := .tuple #[.agg Tryz.zeroCells33, .int .i64 2]) (results_ct rfl _ _ _ _ _ _ _ rfl rfl (by kernel_rfl) (n := 65) (by kernel_rfl) hgn zc_size) rfl ?_
                  exact HE.out _ (FFn.below (by have := lt_of_block hz; omega) (by simp))
                · have t8 : decide (p1 < 0) = false := by simpa using q3
                  obtain ⟨a1, rfl⟩ := Int.eq_ofNat_of_zero_le (show 0 ≤ p1 by omega)
                  by_cases q4 : n ≤ a1
                  · have t9 : decide ((a1 : Int) ≥ (n : Int)) = true := by simp; omega
                    have HE := Lib.hid (HE.out (by simp [inP]; omega))
                    clear hL hbw
                    go_wp2_with (first | (refine wpList_build rfl rfl (v := .agg (Tryz.zeroCells33)) (by kernel_rfl) ?_) | (refine wpList_rown rfl rfl rfl rfl rfl (n := 65) (by kernel_rfl) hz zc_size rfl zc_one ?_; intro wn hgn FFn))
                    refine bodyPost_ret (v := .tuple #[.agg Tryz.zeroCells33, .int .i64 2]) (results_ct rfl _ _ _ _ _ _ _ rfl rfl (by kernel_rfl) (n := 65) (by kernel_rfl) hgn zc_size) rfl ?_
                    exact HE.out _ (FFn.below (by have := lt_of_block hz; omega) (by simp))
                  · have t9 : decide ((a1 : Int) ≥ (n : Int)) = false := by simp; omega
                    have HY := Lib.hid (HYes.out (by simp [inP]; omega))
                    have ha0 : a0 < 8 := by omega
                    have ha1 : a1 < 8 := by omega
                    have k1 : (a0 : Int) < 8 := by omega
                    have k2 : (a1 : Int) < 8 := by omega
                    have cU := hL.cell ha0 ha1
                    have fU := hL.free (1 + a0 * 8 + a1)
                    have hset := hL.set (le' := pairR n (l.take (i + 1))) ha0 ha1 (fun x y => set_of (by rw [hTk]; exact pairR_snoc n (l.take i) a0 a1 x y))
                    have HQ2 := Lib.hid (keepQ hz hbw hset)
                    clear hset hTk HE HQ hL hz hbw
                    go_wp2_with fail
                    go_roundw
                    case rel => exact ⟨i + 1, by go_num, by omega, Lib.hid ⟨HQ2.out.1, HQ2.out.2.1, HQ2.out.2.2, HY.out⟩⟩
                    case measure => simp [intOf]; omega)
        · have t5 : decide ((i : Int) < (N : Int)) = false := by simp; omega
          obtain rfl : N = i := by omega
          have htk : l.take N = l := by rw [← hN, List.take_length]
          have hq2 := hq.out
          rw [htk] at hq2
          have HIn := Lib.hid (show makeE (n : Int) l = if latB n (War (pairR n l) n) = true then 0 else 16 from HIn.out hq2.2.2.2)
          have hO := pairR_out hq2.2.2.2
          have hF := pairR_far hq2.2.2.2
          obtain ⟨⟨cs, hg, hcv⟩, hz, hbw, _⟩ := hq2
          have hsz := hcv.1
          have HC := Lib.hid (fun w' => rclose_any n (pairR n l) cs hO hF hcv w')
          have HLat := Lib.hid (latB_eq (le := War (pairR n l) n) hn8 (fun x y k => War.out hO n x y k) (fun x y k => War.far hF n x y k))
          clear hq htk HOut hcv hO hF
          generalize hle : War (pairR n l) n = le at *
          have HLe := Lib.hid hle; clear hle
          go_wp2_with (first | (refine wpList_loadG rfl rfl rfl (by kernel_rfl) (n := 65) (by kernel_rfl) hg hsz ?_))
          refine (HC.out _).mono ?_; rintro e w2 ⟨hb2, cs2, rfl, hv2⟩
          have hs2 := hv2.1
          have ho2 := hv2.one
          replace hg := (hb2.block _ (lt_of_block hg)).trans hg
          replace hbw := hbw.trans (hb2.mono (by have := lt_of_block hz; omega))
          replace hz := (hb2.block _ (lt_of_block hz)).trans hz
          have hbs := lt_of_block hz
          go_upto_region 16 with (refine wpList_rown rfl rfl rfl rfl rfl (n := 65) (by kernel_rfl) hg hs2 hsz ho2 ?_; intro wn hgn FFn)
          replace hz := FFn.at hz (by simp)
          replace hbw := hbw.trans (FFn.below (B := B) (by omega) (by simp))
          clear hg FFn hb2
          go_wp2_with fail
          go_loopw [11] (fun iv wr => ∃ a : Nat, iv = .int .i64 (a : Int) ∧ a ≤ n ∧ Hid (wr.heap[B + 1]? = some (.cells cs2 33 (0, 0)) ∧ wr.heap[B]? = some (.cells Tryz.zeroCells33 33 (0, 0)) ∧ Below B w wr ∧ ∀ x, x < a → ∀ y, y < n → pairOk n le x y = true)) (fun iv _ => n - (intOf iv).toNat)
          case atStart => exact ⟨0, rfl, Nat.zero_le _, Lib.hid ⟨hgn, hz, hbw, fun x hx => by omega⟩⟩
          case round =>
            clear hgn hz hbw
            obtain ⟨a, rfl, ha, hq⟩ := hrel
            by_cases hal : a < n
            · have t6 : decide ((a : Int) < (n : Int)) = true := by simp; omega
              go_wp2_with fail
              go_loopw [12] (fun iv wr => ∃ b : Nat, iv = .int .i64 (b : Int) ∧ b ≤ n ∧ Hid (wr.heap[B + 1]? = some (.cells cs2 33 (0, 0)) ∧ wr.heap[B]? = some (.cells Tryz.zeroCells33 33 (0, 0)) ∧ Below B w wr ∧ (∀ x, x < a → ∀ y, y < n → pairOk n le x y = true) ∧ ∀ y, y < b → pairOk n le a y = true)) (fun iv _ => n - (intOf iv).toNat)
              case atStart => exact ⟨0, rfl, Nat.zero_le _, Lib.hid ⟨hq.out.1, hq.out.2.1, hq.out.2.2.1, hq.out.2.2.2, fun x hx => by omega⟩⟩
              case round =>
                clear hq
                obtain ⟨b, rfl, hb, hq⟩ := hrel
                by_cases hbl : b < n
                · have t7 : decide ((b : Int) < (n : Int)) = true := by simp; omega
                  have ha8 : a < 8 := by omega
                  have hb8 : b < 8 := by omega
                  have k1 : (a : Int) < 8 := by omega
                  have k2 : (b : Int) < 8 := by omega
                  have hle : LeAt (B + 1) n le wr := ⟨cs2, hq.out.1, hv2⟩
                  have c1 := hle.cell ha8 hb8
                  have c2 := hle.cell hb8 ha8
                  have HJ := Lib.hid (fun w' => rJoin_any n le cs2 hv2 a b hal hbl w')
                  have HM := Lib.hid (fun w' => rMeet_any n le cs2 hv2 a b hal hbl w')
                  have HE16 := Lib.hid (fun (k : pairOk n le a b = false) w' (kb : Below B w w') => (show MqPost (n : Int) l w (.returned (.tuple #[.agg Tryz.zeroCells33, .int .i64 16])) w' from .bad (by
                    rw [HIn.out, if_neg (by
                      rw [HLat.out]
                      intro h
                      rw [List.all_eq_true.1 (List.all_eq_true.1 h a (List.mem_range.2 hal)) b (List.mem_range.2 hbl)] at k
                      cases k)]) (by decide) (by rw [HB.out]; exact kb)))
                  have HYs := Lib.hid (fun (k : pairOk n le a b = true) => (show ∀ y, y < b + 1 → pairOk n le a y = true from fun y hy => by
                    by_cases e : y = b
                    · rw [e]; exact k
                    · exact hq.out.2.2.2.2 y (by omega)))
                  have HQ := Lib.hid hq.out.2.2.2.1
                  obtain ⟨hg, hz, hbw, _, _⟩ := hq.out
                  have hpk : pairOk n le a b = (!(!(Nat.beq a b) && le a b && le b a) && hasJ n le a b && hasJ n (flip le) a b) := rfl
                  clear hle hq
                  by_cases hab : a = b
                  · have q1 : ((a : Int) != (b : Int)) = false := by simp [hab]
                    have hpair : pairOk n le a b = (hasJ n le a b && hasJ n (flip le) a b) := by rw [hpk, show Nat.beq a b = true by rw [hab]; exact Nat.beq_refl b]; simp
                    clear hpk hab
                    go_wp2_with (first | (refine wpList_loadG rfl rfl rfl (by kernel_rfl) (n := 65) (by kernel_rfl) hg hs2 ?_))
                    refine (HJ.out _).mono ?_; rintro e w3 ⟨r, rfl, hr, hb3⟩
                    have hg3 := (hb3.block _ (lt_of_block hg)).trans hg
                    have hz3 := (hb3.block _ (lt_of_block hz)).trans hz
                    have hbw3 := hbw.trans (hb3.mono (by have := lt_of_block hz; omega))
                    cases hj : hasJ n le a b with
                    | false =>
                      rw [hj] at hr
                      replace hr : decide (r < 0) = true := hr
                      have HE := Lib.hid (HE16.out (by rw [hpair, hj]; simp))
                      clear hz hg hg3 hb3 hbw c1 c2
                      have hz := hz3
                      clear hz3
                      go_wp2_with (first | (refine wpList_build rfl rfl (v := .agg (Tryz.zeroCells33)) (by kernel_rfl) ?_) | (refine wpList_rown rfl rfl rfl rfl rfl (n := 65) (by kernel_rfl) hz zc_size rfl zc_one ?_; intro wn hgn FFn))
                      refine bodyPost_ret (v := .tuple #[.agg Tryz.zeroCells33, .int .i64 16]) (results_ct rfl _ _ _ _ _ _ _ rfl rfl (by kernel_rfl) (n := 65) (by kernel_rfl) hgn zc_size) rfl ?_
                      exact HE.out _ (hbw3.trans (FFn.below (by have := lt_of_block hz; omega) (by simp)))
                    | true =>
                      rw [hj] at hr
                      replace hr : decide (r < 0) = false := hr
                      clear c1 c2 hg hz hb3 hbw
                      go_wp2_with (first | (refine wpList_loadG rfl rfl rfl (by kernel_rfl) (n := 65) (by kernel_rfl) hg3 hs2 ?_))
                      refine (HM.out _).mono ?_; rintro e w4 ⟨r2, rfl, hr2, hb4⟩
                      have hg4 := (hb4.block _ (lt_of_block hg3)).trans hg3
                      have hz := (hb4.block _ (lt_of_block hz3)).trans hz3
                      have hbw4 := hbw3.trans (hb4.mono (by have := lt_of_block hz3; omega))
                      clear hz3 hg3 hbw3 hb4
                      cases hm : hasJ n (flip le) a b with
                      | false =>
                        rw [hm] at hr2
                        replace hr2 : decide (r2 < 0) = true := hr2
                        have HE := Lib.hid (HE16.out (by rw [hpair, hm]; simp))
                        clear hg4
                        go_wp2_with (first | (refine wpList_build rfl rfl (v := .agg (Tryz.zeroCells33)) (by kernel_rfl) ?_) | (refine wpList_rown rfl rfl rfl rfl rfl (n := 65) (by kernel_rfl) hz zc_size rfl zc_one ?_; intro wn hgn FFn))
                        refine bodyPost_ret (v := .tuple #[.agg Tryz.zeroCells33, .int .i64 16]) (results_ct rfl _ _ _ _ _ _ _ rfl rfl (by kernel_rfl) (n := 65) (by kernel_rfl) hgn zc_size) rfl ?_
                        exact HE.out _ (hbw4.trans (FFn.below (by have := lt_of_block hz; omega) (by simp)))
                      | true =>
                        rw [hm] at hr2
                        replace hr2 : decide (r2 < 0) = false := hr2
                        have HY := Lib.hid (HYs.out (by rw [hpair, hj, hm]; rfl))
                        go_wp2_with fail
                        go_roundw
                        case rel => exact ⟨b + 1, by go_num, by omega, Lib.hid ⟨hg4, hz, hbw4, HQ.out, HY.out⟩⟩
                        case measure => simp [intOf]; omega
                  · have q1 : ((a : Int) != (b : Int)) = true := by rw [bne_iff_ne]; omega
                    have q2 : Nat.beq a b = false := by cases h : Nat.beq a b with | false => rfl | true => exact absurd (Nat.eq_of_beq_eq_true h) hab
                    cases e1 : le a b with
                    | false =>
                      rw [e1] at c1
                      have hpair : pairOk n le a b = (hasJ n le a b && hasJ n (flip le) a b) := by rw [hpk, q2, e1]; simp
                      clear hpk hab
                      go_wp2_with (first | (refine wpList_loadG rfl rfl rfl (by kernel_rfl) (n := 65) (by kernel_rfl) hg hs2 ?_))
                      refine (HJ.out _).mono ?_; rintro e w3 ⟨r, rfl, hr, hb3⟩
                      have hg3 := (hb3.block _ (lt_of_block hg)).trans hg
                      have hz3 := (hb3.block _ (lt_of_block hz)).trans hz
                      have hbw3 := hbw.trans (hb3.mono (by have := lt_of_block hz; omega))
                      cases hj : hasJ n le a b with
                      | false =>
                        rw [hj] at hr
                        replace hr : decide (r < 0) = true := hr
                        have HE := Lib.hid (HE16.out (by rw [hpair, hj]; simp))
                        clear hz hg hg3 hb3 hbw c1 c2
                        have hz := hz3
                        clear hz3
                        go_wp2_with (first | (refine wpList_build rfl rfl (v := .agg (Tryz.zeroCells33)) (by kernel_rfl) ?_) | (refine wpList_rown rfl rfl rfl rfl rfl (n := 65) (by kernel_rfl) hz zc_size rfl zc_one ?_; intro wn hgn FFn))
                        refine bodyPost_ret (v := .tuple #[.agg Tryz.zeroCells33, .int .i64 16]) (results_ct rfl _ _ _ _ _ _ _ rfl rfl (by kernel_rfl) (n := 65) (by kernel_rfl) hgn zc_size) rfl ?_
                        exact HE.out _ (hbw3.trans (FFn.below (by have := lt_of_block hz; omega) (by simp)))
                      | true =>
                        rw [hj] at hr
                        replace hr : decide (r < 0) = false := hr
                        clear c1 c2 hg hz hb3 hbw
                        go_wp2_with (first | (refine wpList_loadG rfl rfl rfl (by kernel_rfl) (n := 65) (by kernel_rfl) hg3 hs2 ?_))
                        refine (HM.out _).mono ?_; rintro e w4 ⟨r2, rfl, hr2, hb4⟩
                        have hg4 := (hb4.block _ (lt_of_block hg3)).trans hg3
                        have hz := (hb4.block _ (lt_of_block hz3)).trans hz3
                        have hbw4 := hbw3.trans (hb4.mono (by have := lt_of_block hz3; omega))
                        clear hz3 hg3 hbw3 hb4
                        cases hm : hasJ n (flip le) a b with
                        | false =>
                          rw [hm] at hr2
                          replace hr2 : decide (r2 < 0) = true := hr2
                          have HE := Lib.hid (HE16.out (by rw [hpair, hm]; simp))
                          clear hg4
                          go_wp2_with (first | (refine wpList_build rfl rfl (v := .agg (Tryz.zeroCells33)) (by kernel_rfl) ?_) | (refine wpList_rown rfl rfl rfl rfl rfl (n := 65) (by kernel_rfl) hz zc_size rfl zc_one ?_; intro wn hgn FFn))
                          refine bodyPost_ret (v := .tuple #[.agg Tryz.zeroCells33, .int .i64 16]) (results_ct rfl _ _ _ _ _ _ _ rfl rfl (by kernel_rfl) (n := 65) (by kernel_rfl) hgn zc_size) rfl ?_
                          exact HE.out _ (hbw4.trans (FFn.below (by have := lt_of_block hz; omega) (by simp)))
                        | true =>
                          rw [hm] at hr2
                          replace hr2 : decide (r2 < 0) = false := hr2
                          have HY := Lib.hid (HYs.out (by rw [hpair, hj, hm]; rfl))
                          go_wp2_with fail
                          go_roundw
                          case rel => exact ⟨b + 1, by go_num, by omega, Lib.hid ⟨hg4, hz, hbw4, HQ.out, HY.out⟩⟩
                          case measure => simp [intOf]; omega
                    | true =>
                      rw [e1] at c1
                      cases e2 : le b a with
                      | false =>
                        rw [e2] at c2
                        have hpair : pairOk n le a b = (hasJ n le a b && hasJ n (flip le) a b) := by rw [hpk, q2, e2]; simp
                        clear hpk hab
                        go_wp2_with (first | (refine wpList_loadG rfl rfl rfl (by kernel_rfl) (n := 65) (by kernel_rfl) hg hs2 ?_))
                        refine (HJ.out _).mono ?_; rintro e w3 ⟨r, rfl, hr, hb3⟩
                        have hg3 := (hb3.block _ (lt_of_block hg)).trans hg
                        have hz3 := (hb3.block _ (lt_of_block hz)).trans hz
                        have hbw3 := hbw.trans (hb3.mono (by have := lt_of_block hz; omega))
                        cases hj : hasJ n le a b with
                        | false =>
                          rw [hj] at hr
                          replace hr : decide (r < 0) = true := hr
                          have HE := Lib.hid (HE16.out (by rw [hpair, hj]; simp))
                          clear hz hg hg3 hb3 hbw c1 c2
                          have hz := hz3
                          clear hz3
                          go_wp2_with (first | (refine wpList_build rfl rfl (v := .agg (Tryz.zeroCells33)) (by kernel_rfl) ?_) | (refine wpList_rown rfl rfl rfl rfl rfl (n := 65) (by kernel_rfl) hz zc_size rfl zc_one ?_; intro wn hgn FFn))
                          refine bodyPost_ret (v := .tuple #[.agg Tryz.zeroCells33, .int .i64 16]) (results_ct rfl _ _ _ _ _ _ _ rfl rfl (by kernel_rfl) (n := 65) (by kernel_rfl) hgn zc_size) rfl ?_
                          exact HE.out _ (hbw3.trans (FFn.below (by have := lt_of_block hz; omega) (by simp)))
                        | true =>
                          rw [hj] at hr
                          replace hr : decide (r < 0) = false := hr
                          clear c1 c2 hg hz hb3 hbw
                          go_wp2_with (first | (refine wpList_loadG rfl rfl rfl (by kernel_rfl) (n := 65) (by kernel_rfl) hg3 hs2 ?_))
                          refine (HM.out _).mono ?_; rintro e w4 ⟨r2, rfl, hr2, hb4⟩
                          have hg4 := (hb4.block _ (lt_of_block hg3)).trans hg3
                          have hz := (hb4.block _ (lt_of_block hz3)).trans hz3
                          have hbw4 := hbw3.trans (hb4.mono (by have := lt_of_block hz3; omega))
                          clear hz3 hg3 hbw3 hb4
                          cases hm : hasJ n (flip le) a b with
                          | false =>
                            rw [hm] at hr2
                            replace hr2 : decide (r2 < 0) = true := hr2
                            have HE := Lib.hid (HE16.out (by rw [hpair, hm]; simp))
                            clear hg4
                            go_wp2_with (first | (refine wpList_build rfl rfl (v := .agg (Tryz.zeroCells33)) (by kernel_rfl) ?_) | (refine wpList_rown rfl rfl rfl rfl rfl (n := 65) (by kernel_rfl) hz zc_size rfl zc_one ?_; intro wn hgn FFn))
                            refine bodyPost_ret (v := .tuple #[.agg Tryz.zeroCells33, .int .i64 16]) (results_ct rfl _ _ _ _ _ _ _ rfl rfl (by kernel_rfl) (n := 65) (by kernel_rfl) hgn zc_size) rfl ?_
                            exact HE.out _ (hbw4.trans (FFn.below (by have := lt_of_block hz; omega) (by simp)))
                          | true =>
                            rw [hm] at hr2
                            replace hr2 : decide (r2 < 0) = false := hr2
                            have HY := Lib.hid (HYs.out (by rw [hpair, hj, hm]; rfl))
                            go_wp2_with fail
                            go_roundw
                            case rel => exact ⟨b + 1, by go_num, by omega, Lib.hid ⟨hg4, hz, hbw4, HQ.out, HY.out⟩⟩
                            case measure => simp [intOf]; omega
                      | true =>
                        rw [e2] at c2
                        have HE := Lib.hid (HE16.out (by rw [hpk, q2, e1, e2]; rfl))
                        clear hpk hab hg
                        go_wp2_with (first | (refine wpList_build rfl rfl (v := .agg (Tryz.zeroCells33)) (by kernel_rfl) ?_) | (refine wpList_rown rfl rfl rfl rfl rfl (n := 65) (by kernel_rfl) hz zc_size rfl zc_one ?_; intro wn hgn FFn))
                        refine bodyPost_ret (v := .tuple #[.agg Tryz.zeroCells33, .int .i64 16]) (results_ct rfl _ _ _ _ _ _ _ rfl rfl (by kernel_rfl) (n := 65) (by kernel_rfl) hgn zc_size) rfl ?_
                        exact HE.out _ (hbw.trans (FFn.below (by have := lt_of_block hz; omega) (by simp)))
                · have t7 : decide ((b : Int) < (n : Int)) = false := by simp; omega
                  obtain rfl : n = b := by omega
                  go_wp2_with fail
                  go_roundw
                  case rel => exact ⟨a + 1, by go_num, by omega, Lib.hid ⟨hq.out.1, hq.out.2.1, hq.out.2.2.1, fun x hx y hy => by
                    by_cases e : x = a
                    · rw [e]; exact hq.out.2.2.2.2 y hy
                    · exact hq.out.2.2.2.1 x (by omega) y hy⟩⟩
                  case measure => simp [intOf]; omega
            · have t6 : decide ((a : Int) < (n : Int)) = false := by simp; omega
              obtain rfl : n = a := by omega
              have hlat : latB n le = true := HLat.out.trans (List.all_eq_true.2 fun x hx => List.all_eq_true.2 fun y hy => hq.out.2.2.2 x (List.mem_range.1 hx) y (List.mem_range.1 hy))
              obtain ⟨hg, hz, hbw, _⟩ := hq.out
              have HE := Lib.hid (fun w' (kb : Below B w w') => (show MqPost (n : Int) l w (.returned (.tuple #[.agg cs2, .int .i64 0])) w' from ⟨by rw [HB.out]; exact kb, cs2, by rw [HIn.out, if_pos hlat], .inl ⟨by rw [HIn.out, if_pos hlat], by
                show LeV n (War (pairR n l) n) cs2
                rw [HLe.out]; exact hv2⟩⟩))
              clear hq hlat HLat HIn
              go_wp2_with (first | (refine wpList_loadG rfl rfl rfl (by kernel_rfl) (n := 65) (by kernel_rfl) hg hs2 ?_) | (refine wpList_rown rfl rfl rfl rfl rfl (n := 65) (by kernel_rfl) hz hs2 zc_size ho2 ?_; intro wn hgn FFn))
              refine bodyPost_ret (v := .tuple #[.agg cs2, .int .i64 0]) (results_ct rfl _ _ _ _ _ _ _ rfl rfl (by kernel_rfl) (n := 65) (by kernel_rfl) hgn hs2) rfl ?_
              exact HE.out _ (hbw.trans (FFn.below (by have := lt_of_block hz; omega) (by simp)))
theorem rMake_any (n : Int) (v : Value) (l : List (Int × Int)) (w : World) (hv : PairsAt w l v) : Calls Tryz.prog 7 #[.int .i64 n, v] w (MqPost n l w) := by
  by_cases h : n < 1 ∨ 8 < n ∨ 64 < l.length
  · obtain ⟨p, c, rfl, _, _⟩ := hv
    exact rMake_bad n p _ c l rfl h w
  · obtain ⟨m, rfl⟩ := Int.eq_ofNat_of_zero_le (show 0 ≤ n by omega)
    exact rMake_good m v l w hv (by omega)
theorem lMake_any (n : Int) (v : Value) (l : List (Int × Int)) (w : World) (hv : PairsAt w l v) : Calls Tryz.prog 6 #[.int .i64 n, v] w (MkPost n l w) := by
  by_cases h : n < 1 ∨ 8 < n ∨ 64 < l.length
  · obtain ⟨p, c, rfl, _, _⟩ := hv
    exact lMake_bad n p _ c l rfl h w
  · obtain ⟨m, rfl⟩ := Int.eq_ofNat_of_zero_le (show 0 ≤ n by omega)
    exact lMake_good m v l w hv (by omega)
end Go.Proofs.YtkbcdlabfbonoaaGreatDoor
