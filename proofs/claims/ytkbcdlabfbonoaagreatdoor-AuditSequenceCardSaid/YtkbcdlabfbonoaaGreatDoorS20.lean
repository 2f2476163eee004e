/-
  La9 in one text.
-/
import Derived.Below
import Derived.BigFrame
import Derived.Deep.Cut
import Derived.Deep.DeepCutAuto
import Derived.Deep.MidRow
import Derived.Deep.QuietTactic
import Derived.Deep.RegionHeld3
import Derived.IntWalk
import Derived.KernelRfl
import Derived.Laws.Unary
import Derived.Lib.Builder
import Derived.Lib.Hide
import Derived.Lib.MinMax
import Derived.LoopTactic
import Derived.OneCell
import Derived.OwnWalk
import Derived.ProofKit
import Derived.RegionTactic
import Derived.Scope
import Derived.Tactics
import Derived.Test.YtkbcdlabfbonoaaGreatDoorChecked
import Derived.Test.YtkbcdlabfbonoaaGreatDoorEv3
import Derived.Test.YtkbcdlabfbonoaaGreatDoorS01
import Derived.Test.YtkbcdlabfbonoaaGreatDoorS04
import Derived.Test.YtkbcdlabfbonoaaGreatDoorS12
import Derived.Test.YtkbcdlabfbonoaaGreatDoorS13
import Derived.Test.YtkbcdlabfbonoaaGreatDoorS14
import Derived.Test.YtkbcdlabfbonoaaGreatDoorS16
import Derived.Test.YtkbcdlabfbonoaaGreatDoorS17
import Derived.Test.YtkbcdlabfbonoaaGreatDoorS18
import Derived.Test.YtkbcdlabfbonoaaGreatDoorS19
namespace Go.Proofs.YtkbcdlabfbonoaaGreatDoor
open Go.RowKit
/-- pairs of whole numbers behind a slice -/
def PairsAt (w : World) (l : List (Int × Int)) (v : Value) : Prop :=
  ∃ p cap, v = .slice p l.length cap ∧ l.length ≤ 140737488355328 ∧ ∀ i x, l[i]? = some x → ∃ g off, p = some ⟨g, off, none⟩ ∧ g < w.heap.size ∧ w.cell? ⟨g, off + i * 2, none⟩ = some (.int .i64 x.1) ∧ w.cell? ⟨g, off + i * 2 + 1, none⟩ = some (.int .i64 x.2)
theorem PairsAt.kept {w w' : World} {l : List (Int × Int)} {v : Value} (hb : Below w.heap.size w w') (h : PairsAt w l v) : PairsAt w' l v := by
  obtain ⟨p, c, h1, h2, h3⟩ := h
  refine ⟨p, c, h1, h2, fun i x hx => ?_⟩
  obtain ⟨g, off, h4, h5, h6, h7⟩ := h3 i x hx
  exact ⟨g, off, h4, Nat.lt_of_lt_of_le h5 hb.size, (hb.cell (p := ⟨g, off + i * 2, none⟩) h5).trans h6, (hb.cell (p := ⟨g, off + i * 2 + 1, none⟩) h5).trans h7⟩
theorem PairsAt.item {w : World} {l : List (Int × Int)} {p : Option Addr} {n c : Nat} (h : PairsAt w l (.slice p n c)) {i : Nat} {x : Int × Int} (hx : l[i]? = some x) :
    ∃ g off, p = some ⟨g, off, none⟩ ∧ g < w.heap.size ∧ w.cell? ⟨g, off + i * 2, none⟩ = some (.int .i64 x.1) ∧ w.cell? ⟨g, off + i * 2 + 1, none⟩ = some (.int .i64 x.2) := by
  obtain ⟨p', c', h1, h2, h3⟩ := h
  injection h1 with h1 _ _
  subst h1
  exact h3 i x hx
def latZ (n : Int) : Array Value := (.int .i64 n :: (List.replicate 16 (.int .u8 0) ++ List.replicate 128 (.int .i8 0))).toArray
set_option maxRecDepth 100000 in
theorem latZ_at {b n : Nat} {w : World} (h : w.heap[b]? = some (.cells (latZ (n : Int)) 70 (0, 0))) (hn : n ≤ 8) : LatAt b n (diagR 0) (fun _ _ => false) w := by
  have hz : bits (fun _ => false) = 0 := rfl
  refine ⟨_, h, rfl, hn, rfl, fun a ha => ?_, fun a ha => ?_, fun j h1 h2 => ?_⟩
  · rw [diagR_zero, hz]
    match a, ha with
    | 0, _ => rfl
    | 1, _ => rfl
    | 2, _ => rfl
    | 3, _ => rfl
    | 4, _ => rfl
    | 5, _ => rfl
    | 6, _ => rfl
    | 7, _ => rfl
  · rw [hz]
    match a, ha with
    | 0, _ => rfl
    | 1, _ => rfl
    | 2, _ => rfl
    | 3, _ => rfl
    | 4, _ => rfl
    | 5, _ => rfl
    | 6, _ => rfl
    | 7, _ => rfl
  · refine ⟨0, ?_⟩
    obtain ⟨k, rfl⟩ : ∃ k, j = k + 17 := ⟨j - 17, by omega⟩
    rw [← Array.getElem?_toList]
    have e : (latZ (n : Int)).toList = .int .i64 n :: (List.replicate 16 (.int .u8 0) ++ List.replicate 128 (.int .i8 0)) := rfl
    rw [e, List.getElem?_cons_succ, List.getElem?_append_right (by simp), List.length_replicate, show k + 16 - 16 = k by omega, List.getElem?_replicate_of_lt (by omega)]
/-- what Make leaves -/
def MkPost (n : Int) (l : List (Int × Int)) (w : World) (e : Ending) (w' : World) : Prop :=
  Below w.heap.size w w' ∧ ((makeE n l = 0 ∧ ∃ b, e = .returned (.tuple #[.pointer (some ⟨b, 0, none⟩), .int .i64 0]) ∧ w.heap.size ≤ b ∧ LatAt b n.toNat (War (pairR n.toNat l) n.toNat) (flip (War (pairR n.toNat l) n.toNat)) w') ∨ (makeE n l ≠ 0 ∧ e = .returned (.tuple #[.pointer none, .int .i64 (makeE n l)])))
theorem makeE_bad {n : Int} {l : List (Int × Int)} (h : n < 1 ∨ 8 < n ∨ 64 < l.length) : makeE n l = 2 := if_pos h
theorem makeE_out {n : Int} {l : List (Int × Int)} (h : ¬ (n < 1 ∨ 8 < n ∨ 64 < l.length)) (k : l.all (inP n.toNat) = false) : makeE n l = 2 := by unfold makeE; rw [if_neg h, if_pos k]
theorem makeE_in {n : Int} {l : List (Int × Int)} (h : ¬ (n < 1 ∨ 8 < n ∨ 64 < l.length)) (k : l.all (inP n.toNat) = true) : makeE n l = if latB n.toNat (War (pairR n.toNat l) n.toNat) = true then 0 else 16 := by unfold makeE; rw [if_neg h, if_neg (by rw [k]; simp)]
theorem all_take {α : Type} {p : α → Bool} {l : List α} {i : Nat} {x : α} (hx : l[i]? = some x) (h : (l.take i).all p = true) (k : p x = true) : (l.take (i + 1)).all p = true := by
  rw [List.take_add_one, hx]
  simp [h, k]
theorem all_no {α : Type} {p : α → Bool} {l : List α} {i : Nat} {x : α} (hx : l[i]? = some x) (k : p x = false) : l.all p = false := by
  cases h : l.all p with
  | false => rfl
  | true => rw [List.all_eq_true.1 h x (List.mem_of_getElem? hx)] at k; cases k
set_option maxRecDepth 100000 in
set_option maxHeartbeats 2000000 in
theorem lMake_bad (n : Int) (p : Option Addr) (N c : Nat) (l : List (Int × Int)) (hN : l.length = N) (hb : n < 1 ∨ 8 < n ∨ 64 < N) (w : World) : Calls Tryz.prog 6 #[.int .i64 n, .slice p N c] w (MkPost n l w) := by
  have HE := Lib.hid (show MkPost n l w (.returned (.tuple #[.pointer none, .int .i64 2])) w from ⟨Below.refl _ _, .inr (by rw [makeE_bad (by rw [hN]; exact hb)]; exact ⟨by decide, rfl⟩)⟩)
  clear hN
  by_cases h1 : n < 1
  · have t1 : decide (n < 1) = true := by simpa using h1
    go_enter Tryz.func6, Tryz.ntmps6
    go_wp2_with fail
    go_ret2
    exact HE.out
  · have t1 : decide (n < 1) = false := by simpa using h1
    by_cases h2 : 8 < n
    · have t2 : decide (8 < n) = true := by simpa using h2
      go_enter Tryz.func6, Tryz.ntmps6
      go_wp2_with fail
      go_ret2
      exact HE.out
    · have t2 : decide (8 < n) = false := by simpa using h2
      have t3 : decide ((64 : Int) < (N : Int)) = true := by simp; omega
      go_enter Tryz.func6, Tryz.ntmps6
      go_wp2_with fail
      go_ret2
      exact HE.out
theorem setU_one {le : Rel} {a c : Nat} {le' : Rel} (h : ∀ x y, le' x y = (le x y || (Nat.beq x a && Nat.beq y c))) : (bits (le' a) = bits fun y => le a y || Nat.beq y c) ∧ ∀ x y, x ≠ a → le' x y = le x y := by
  refine ⟨bits_ext fun y _ => by rw [h, Nat.beq_refl, Bool.true_and], fun x y hx => ?_⟩
  have : Nat.beq x a = false := by cases k : Nat.beq x a with | false => rfl | true => exact absurd (Nat.eq_of_beq_eq_true k) hx
  rw [h, this]; simp
set_option maxRecDepth 100000 in
set_option maxHeartbeats 4000000 in
theorem lMake_good (n : Nat) (v : Value) (l : List (Int × Int)) (w : World) (hv : PairsAt w l v) (hn : 1 ≤ n ∧ n ≤ 8 ∧ l.length ≤ 64) : Calls Tryz.prog 6 #[.int .i64 (n : Int), v] w (MkPost (n : Int) l w) := by
  have HP := Lib.hid hv
  obtain ⟨p, c, rfl, _, _⟩ := hv
  obtain ⟨hn1, hn8, hl64⟩ := hn
  have hok : ¬ ((n : Int) < 1 ∨ 8 < (n : Int) ∨ 64 < l.length) := by omega
  have HOut := Lib.hid (fun (h : l.all (inP n) = false) => makeE_out hok h)
  have HIn := Lib.hid (fun (h : l.all (inP n) = true) => makeE_in hok h)
  have t1 : decide ((n : Int) < 1) = false := by simp; omega
  have t2 : decide ((8 : Int) < (n : Int)) = false := by simp; omega
  have t3 : decide ((64 : Int) < (l.length : Int)) = false := by simp; omega
  have h0 := latZ_at (heap_alloc_new w (.cells (latZ (n : Int)) 70)) hn8
  have f0 := (Below.refl w.heap.size w).alloc (Nat.le_refl _) (.cells (latZ (n : Int)) 70)
  generalize hW1 : w.alloc (.cells (latZ (n : Int)) 70) = W1 at *
  have HW1 := Lib.hid hW1
  clear hW1 hok
  go_enter Tryz.func6, Tryz.ntmps6
  go_upto_region 3 with (fail)
  refine wp_region_list ?_
  refine wpList_do rfl (v := .int .i64 (n : Int)) (w' := w) rfl ?_
  refine wpList_do rfl (v := .agg (latZ (n : Int))) (w' := w) (by kernel_rfl) ?_
  refine wpList_do rfl (v := .pointer (some ⟨w.heap.size, 0, none⟩)) (w' := W1) (by rw [← HW1.out]; kernel_rfl) ?_
  simp only [Act.put, List.setIfInBounds_toArray, List.set_cons_zero, List.set_cons_succ]
  generalize hB : w.heap.size = B at *
  have HB := Lib.hid hB; clear hB HW1
  go_wp2_with fail
  go_loopw [25] (fun iv wr => ∃ a : Nat, iv = .int .i64 (a : Int) ∧ a ≤ n ∧ Hid (LatAt B n (diagR a) (fun _ _ => false) wr ∧ Below B w wr)) (fun iv _ => n - (intOf iv).toNat)
  case atStart => exact ⟨0, rfl, Nat.zero_le _, Lib.hid ⟨h0, f0⟩⟩
  case round =>
    clear h0 f0
    obtain ⟨a, rfl, ha, hq⟩ := hrel
    by_cases hal : a < n
    · have t4 : decide ((a : Int) < (n : Int)) = true := by simp; omega
      have ha8 : a < 8 := by omega
      have cU := hq.out.1.cellU ha8
      have fU := hq.out.1.free (1 + a)
      have cUd : wr.drew.cell? ⟨B, 1 + a, none⟩ = _ := cU
      have fUd : wr.drew.frozen? ⟨B, 1 + a, none⟩ = false := fU
      have a0 : (a : Int) < 8 := by omega
      have b3 := u8_shl ha8 .i64
      obtain ⟨e1, e2⟩ := setU_one (fun x y => diagR_step a x y)
      have e3 : bits (diagR (a + 1) a) = bits fun y => Nat.beq y a := by rw [e1]; exact bits_ext fun y _ => by simp [diagR]
      rw [← e3] at b3
      have HS := Lib.hid (hq.out.1.drew.setU ha8 (U' := diagR (a + 1)) e2)
      clear e1 e2 e3
      go_upto_region 7 with (fail)
      go_region
      all_goals (
        go_wp2_with fail
        go_roundw
        case rel => exact ⟨a + 1, by go_num, by omega, Lib.hid ⟨HS.out, hq.out.2.drew.setCell (p := ⟨B, 1 + a, none⟩) (Nat.le_refl _) _⟩⟩
        case measure => simp [intOf]; omega)
    · have t4 : decide ((a : Int) < (n : Int)) = false := by simp; omega
      obtain rfl : n = a := by omega
      have hq2 := hq.out
      rw [diagR_all] at hq2
      have HQ := Lib.hid hq2
      clear hq hq2 t1 t2 t3
      generalize hN : l.length = N at *
      go_wp2_with fail
      go_loopw [38] (fun iv wx => ∃ i : Nat, iv = .int .i64 (i : Int) ∧ i ≤ N ∧ Hid (LatAt B n (pairR n (l.take i)) (fun _ _ => false) wx ∧ Below B w wx ∧ (l.take i).all (inP n) = true)) (fun iv _ => N - (intOf iv).toNat)
      case atStart => exact ⟨0, rfl, Nat.zero_le _, Lib.hid ⟨HQ.out.1, HQ.out.2, rfl⟩⟩
      case round =>
        clear HQ
        obtain ⟨i, rfl, hi, hq⟩ := hrel
        by_cases hil : i < N
        · have t5 : decide ((i : Int) < (N : Int)) = true := by simp; omega
          have hlt : i < l.length := by omega
          obtain ⟨x, hx⟩ : ∃ x, l[i]? = some x := ⟨_, List.getElem?_eq_getElem hlt⟩
          have hpp := HP.out.kept (hq.out.2.1.mono (Nat.le_of_eq HB.out))
          obtain ⟨g, off, rfl, hg, x0, x1⟩ := hpp.item hx
          clear hpp
          obtain ⟨p0, p1⟩ := x
          dsimp only at x0 x1
          have hA : Below wr.heap.size wr (wr.alloc (.cells #[.int .i64 p0, .int .i64 p1] 47)) := (Below.refl _ _).alloc (Nat.le_refl _) _
          have hgp := heap_alloc_new wr (.cells #[.int .i64 p0, .int .i64 p1] 47)
          have hL := hq.out.1.of (hA.block B hq.out.1.lt)
          have hbw := hq.out.2.1.trans (hA.mono (by have := hq.out.1.lt; omega))
          have hBl : B < wr.heap.size := hq.out.1.lt
          go_upto_region 12 with (fail)
          generalize wr.alloc (.cells #[.int .i64 p0, .int .i64 p1] 47) = V at *
          generalize wr.heap.size = G at *
          clear x0 x1 hA
          have y0 : V.cell? ⟨G, 0, none⟩ = some (.int .i64 p0) := by rw [Lib.cell_of_heap hgp]; rfl
          have y1 : V.cell? ⟨G, 1, none⟩ = some (.int .i64 p1) := by rw [Lib.cell_of_heap hgp]; rfl
          have HNo := Lib.hid (fun (k : inP n (p0, p1) = false) => HOut.out (all_no hx k))
          have HYes := Lib.hid (fun (k : inP n (p0, p1) = true) => all_take hx hq.out.2.2 k)
          have hTk : l.take (i + 1) = l.take i ++ [(p0, p1)] := by rw [List.take_add_one, hx]; rfl
          by_cases hin : inP n (p0, p1) = true
          · have hin' := hin
            simp only [inP, Bool.and_eq_true, decide_eq_true_eq] at hin'
            obtain ⟨⟨g0, g1⟩, g2, g3⟩ := hin'
            obtain ⟨a0, rfl⟩ := Int.eq_ofNat_of_zero_le g0
            obtain ⟨a1, rfl⟩ := Int.eq_ofNat_of_zero_le g2
            have t6 : decide (min (a0 : Int) (a1 : Int) < 0) = false := by simp; omega
            have t7 : decide (max (a0 : Int) (a1 : Int) ≥ (n : Int)) = false := by simp; omega
            have t8 : decide ((n : Int) ≤ max (a0 : Int) (a1 : Int)) = false := by simp; omega
            have ha0 : a0 < 8 := by omega
            have ha1 : a1 < 8 := by omega
            have k0 : (a0 : Int) < 8 := by omega
            have k1 : (a1 : Int) < 8 := by omega
            have cU := hL.cellU ha0
            have fU := hL.free (1 + a0)
            have cUd : V.drew.cell? ⟨B, 1 + a0, none⟩ = _ := cU
            have fUd : V.drew.frozen? ⟨B, 1 + a0, none⟩ = false := fU
            have y0d : V.drew.cell? ⟨G, 0, none⟩ = _ := y0
            have y1d : V.drew.cell? ⟨G, 1, none⟩ = _ := y1
            have b3 := u8_shl ha1 .i64
            have b4 := u8_or (pairR n (l.take i) a0) (fun y => Nat.beq y a1)
            obtain ⟨e1, e2⟩ := setU_one (fun x y => pairR_snoc n (l.take i) a0 a1 x y)
            rw [← hTk] at e1 e2
            rw [← e1] at b4
            have HS := Lib.hid (hL.drew.setU ha0 (U' := pairR n (l.take (i + 1))) e2)
            have HY := Lib.hid (HYes.out hin)
            have HL := Lib.hid hL; have HBW := Lib.hid hbw
            clear e1 e2 hTk HNo HYes hL hbw hq hin g0 g1 g2 g3 hgp
            go_wp2_with fail
            go_upto_region 14 with (fail)
            go_region
            all_goals (
              go_wp2_with fail
              go_roundw
              case rel => exact ⟨i + 1, by go_num, by omega, Lib.hid ⟨HS.out, HBW.out.drew.setCell (p := ⟨B, 1 + a0, none⟩) (Nat.le_refl _) _, HY.out⟩⟩
              case measure => simp [intOf]; omega)
          · have hno := HNo.out (by simpa using hin)
            have HE := Lib.hid (show MkPost (n : Int) l w (.returned (.tuple #[.pointer none, .int .i64 2])) V from ⟨by rw [HB.out]; exact hbw, .inr (by rw [hno]; exact ⟨by decide, rfl⟩)⟩)
            clear hno HNo HYes hTk hL hbw hq
            by_cases q1 : min p0 p1 < 0
            · have t6 : decide (min p0 p1 < 0) = true := by simpa using q1
              clear q1 hin
              go_wp2_with fail
              go_ret2
              exact HE.out
            · have t6 : decide (min p0 p1 < 0) = false := by simpa using q1
              have q2 : (n : Int) ≤ max p0 p1 := by
                simp only [inP, Bool.and_eq_true, decide_eq_true_eq] at hin
                omega
              have t7 : decide (max p0 p1 ≥ (n : Int)) = true := by simpa using q2
              have t8 : decide ((n : Int) ≤ max p0 p1) = true := by simpa using q2
              clear q1 hin q2
              go_wp2_with fail
              go_ret2
              exact HE.out
        · have t5 : decide ((i : Int) < (N : Int)) = false := by simp; omega
          obtain rfl : N = i := by omega
          have htk : l.take N = l := by rw [← hN, List.take_length]
          have hq2 := hq.out
          rw [htk] at hq2
          have HIn := Lib.hid (show makeE (n : Int) l = if latB n (War (pairR n l) n) = true then 0 else 16 from HIn.out hq2.2.2)
          have HC := Lib.hid (lclose_any B n (pairR n l) wr (fun k hk => pairR_refl hk) (pairR_out hq2.2.2) (pairR_far hq2.2.2) hq2.1)
          have HBW := Lib.hid hq2.2.1
          clear hq hq2 htk HOut
          generalize hle : War (pairR n l) n = le at *
          have HLe := Lib.hid hle; clear hle
          go_wp2_with fail
          refine (HC.out).mono ?_; rintro e w2 ⟨rfl, hL2, hF2⟩
          have hs2 := HBW.out.size
          have hb2 := HBW.out.trans (hF2.below (by have := HB.out; omega) (by simp))
          have HT := Lib.hid (ltables_any B n le w2 hL2)
          clear hL2 hF2
          go_wp2_with fail
          refine (HT.out).mono ?_; rintro e w3 ⟨rfl, hL3, hF3⟩
          have hs3 := hb2.size
          have hb3 := hb2.trans (hF3.below (by have := HB.out; omega) (by simp))
          clear hF3 hb2
          cases hlat : latB n le with
          | true =>
            have HE := Lib.hid (show MkPost (n : Int) l w (.returned (.tuple #[.pointer (some ⟨B, 0, none⟩), .int .i64 0])) w3 from ⟨by rw [HB.out]; exact hb3, .inl ⟨by rw [HIn.out, if_pos hlat], B, rfl, by rw [HB.out]; exact Nat.le_refl _, by
              show LatAt B n (War (pairR n l) n) (flip (War (pairR n l) n)) w3
              rw [HLe.out]; exact hL3⟩⟩)
            clear hL3 hb3
            go_wp2_with fail
            go_ret2
            exact HE.out
          | false =>
            have HE := Lib.hid (show MkPost (n : Int) l w (.returned (.tuple #[.pointer none, .int .i64 16])) w3 from ⟨by rw [HB.out]; exact hb3, .inr (by rw [HIn.out, if_neg (by rw [hlat]; simp)]; exact ⟨by decide, rfl⟩)⟩)
            clear hL3 hb3
            go_wp2_with fail
            go_ret2
            exact HE.out
end Go.Proofs.YtkbcdlabfbonoaaGreatDoor
