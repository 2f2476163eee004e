/-
  An, W2, Y3, Y4, Sh, U2, U5 in one text.
-/
import Derived.Below
import Derived.BigQuiet
import Derived.Deep.Cut
import Derived.Deep.DeepCutAuto
import Derived.Deep.QuietTactic
import Derived.Deep.RegionHeld3
import Derived.Deep.RegionWith
import Derived.Defers
import Derived.Handy
import Derived.IntWalk
import Derived.Laws.Bits64b
import Derived.Laws.FloatBits
import Derived.Lib.AtoiAll
import Derived.Lib.Builder
import Derived.Lib.Bytealg
import Derived.Lib.Bytes
import Derived.Lib.ConvBytes
import Derived.Lib.FrozenHead2
import Derived.Lib.Hide
import Derived.Lib.IndexMore
import Derived.Lib.ItoaNum
import Derived.Lib.MinMax
import Derived.Lib.OthersKept
import Derived.Lib.ParseIntB
import Derived.Lib.UnsafeStr
import Derived.LoopTactic
import Derived.OneCell
import Derived.OwnWalk
import Derived.Recover
import Derived.RegionTactic
import Derived.StillTailTactics
import Derived.Tactics
import Derived.Tactics2
import Derived.Test.YthponidjednfbaaGreatDoorChecked
import Derived.WalkKit
import Derived.WalkLawsBesides
import Derived.WalkSpells
import Ieee.Arith
import Derived.Test.YthponidjednfbaaGreatDoorS00
import Derived.Test.YthponidjednfbaaGreatDoorS01
namespace Go.Proofs.YthponidjednfbaaGreatDoor
section
open Go.RowKit
theorem nan_int (n : Int) (w : World) : Calls Tryz.prog 162 #[.int .i64 n] w fun e w' => e = .returned (.bool false) ∧ w = w' := by
  have t0 : (n != n) = false := by simp
  go_enter Tryz.func162, Tryz.ntmps162
  go_wp2_with fail
  go_ret
  exact ⟨rfl, rfl⟩
theorem cmpQ_int (n m : Int) (w : World) : Calls Tryz.prog 98 #[.int .i64 n, .int .i64 m] w fun e w' => e = .returned (.int .i64 (sgnI n m)) ∧ w = w' := by
  have hs := sgnI.eq_def n m
  have HN := Lib.hid (fun n w => nan_int n w)
  by_cases h : n < m
  · have t1 : decide (n < m) = true := decide_eq_true h
    rw [if_pos h] at hs
    have HS := Lib.hid hs; clear hs
    go_enter Tryz.func98, Tryz.ntmps98
    go_wp2_with fail
    refine (HN.out _ _).mono ?_; rintro e w1 ⟨rfl, rfl⟩
    go_wp2_with fail
    refine (HN.out _ _).mono ?_; rintro e w2 ⟨rfl, rfl⟩
    go_wp2_with fail
    go_ret
    exact ⟨ret_val (by rw [HS.out]; rfl), rfl⟩
  · have t1 : decide (n < m) = false := decide_eq_false h
    rw [if_neg h] at hs
    by_cases h2 : m < n
    · have t2 : decide (m < n) = true := decide_eq_true h2
      rw [if_pos h2] at hs
      have HS := Lib.hid hs; clear hs
      go_enter Tryz.func98, Tryz.ntmps98
      go_wp2_with fail
      refine (HN.out _ _).mono ?_; rintro e w1 ⟨rfl, rfl⟩
      go_wp2_with fail
      refine (HN.out _ _).mono ?_; rintro e w2 ⟨rfl, rfl⟩
      go_wp2_with fail
      go_ret
      exact ⟨ret_val (by rw [HS.out]; rfl), rfl⟩
    · have t2 : decide (m < n) = false := decide_eq_false h2
      rw [if_neg h2] at hs
      have HS := Lib.hid hs; clear hs
      go_enter Tryz.func98, Tryz.ntmps98
      go_wp2_with fail
      refine (HN.out _ _).mono ?_; rintro e w1 ⟨rfl, rfl⟩
      go_wp2_with fail
      refine (HN.out _ _).mono ?_; rintro e w2 ⟨rfl, rfl⟩
      go_wp2_with fail
      go_ret
      exact ⟨ret_val (by rw [HS.out]; rfl), rfl⟩
theorem nan_int64 (n : Int) (w : World) : Calls Tryz.prog 215 #[.int .i64 n] w fun e w' => e = .returned (.bool false) ∧ w = w' := by
  have t0 : (n != n) = false := by simp
  go_enter Tryz.func215, Tryz.ntmps215
  go_wp2_with fail
  go_ret
  exact ⟨rfl, rfl⟩
theorem cmpQ_int64 (n m : Int) (w : World) : Calls Tryz.prog 163 #[.int .i64 n, .int .i64 m] w fun e w' => e = .returned (.int .i64 (sgnI n m)) ∧ w = w' := by
  have hs := sgnI.eq_def n m
  have HN := Lib.hid (fun n w => nan_int64 n w)
  by_cases h : n < m
  · have t1 : decide (n < m) = true := decide_eq_true h
    rw [if_pos h] at hs
    have HS := Lib.hid hs; clear hs
    go_enter Tryz.func163, Tryz.ntmps163
    go_wp2_with fail
    refine (HN.out _ _).mono ?_; rintro e w1 ⟨rfl, rfl⟩
    go_wp2_with fail
    refine (HN.out _ _).mono ?_; rintro e w2 ⟨rfl, rfl⟩
    go_wp2_with fail
    go_ret
    exact ⟨ret_val (by rw [HS.out]; rfl), rfl⟩
  · have t1 : decide (n < m) = false := decide_eq_false h
    rw [if_neg h] at hs
    by_cases h2 : m < n
    · have t2 : decide (m < n) = true := decide_eq_true h2
      rw [if_pos h2] at hs
      have HS := Lib.hid hs; clear hs
      go_enter Tryz.func163, Tryz.ntmps163
      go_wp2_with fail
      refine (HN.out _ _).mono ?_; rintro e w1 ⟨rfl, rfl⟩
      go_wp2_with fail
      refine (HN.out _ _).mono ?_; rintro e w2 ⟨rfl, rfl⟩
      go_wp2_with fail
      go_ret
      exact ⟨ret_val (by rw [HS.out]; rfl), rfl⟩
    · have t2 : decide (m < n) = false := decide_eq_false h2
      rw [if_neg h2] at hs
      have HS := Lib.hid hs; clear hs
      go_enter Tryz.func163, Tryz.ntmps163
      go_wp2_with fail
      refine (HN.out _ _).mono ?_; rintro e w1 ⟨rfl, rfl⟩
      go_wp2_with fail
      refine (HN.out _ _).mono ?_; rintro e w2 ⟨rfl, rfl⟩
      go_wp2_with fail
      go_ret
      exact ⟨ret_val (by rw [HS.out]; rfl), rfl⟩
theorem nan_string (s : ByteArray) (w : World) : Calls Tryz.prog 281 #[.string s] w fun e w' => e = .returned (.bool false) ∧ w = w' := by
  have t0 : (s.toList != s.toList) = false := by simp
  go_enter Tryz.func281, Tryz.ntmps281
  go_wp2_with fail
  go_ret
  exact ⟨rfl, rfl⟩
theorem cmp_string (s t : ByteArray) (w : World) : Calls Tryz.prog 218 #[.string s, .string t] w fun e w' => e = .returned (.int .i64 (txtO s.toList t.toList)) ∧ w = w' := by
  have hs := txtO.eq_def s.toList t.toList
  have HN := Lib.hid (fun n w => nan_string n w)
  cases t1 : Op.bytesLess s.toList t.toList
  · rw [t1, if_neg (by decide)] at hs
    by_cases h2 : s.toList = t.toList
    · rw [if_pos h2] at hs
      have t2 : (s.toList == t.toList) = true := beq_iff_eq.2 h2
      have HS := Lib.hid hs; clear hs h2
      go_enter Tryz.func218, Tryz.ntmps218
      go_wp2_with fail
      refine (HN.out _ _).mono ?_; rintro e w1 ⟨rfl, rfl⟩
      go_wp2_with fail
      refine (HN.out _ _).mono ?_; rintro e w2 ⟨rfl, rfl⟩
      go_wp2_with fail
      go_ret
      exact ⟨ret_val (by rw [HS.out]; rfl), rfl⟩
    · rw [if_neg h2] at hs
      have t2 : (s.toList == t.toList) = false := beq_eq_false_iff_ne.2 h2
      have HS := Lib.hid hs; clear hs h2
      go_enter Tryz.func218, Tryz.ntmps218
      go_wp2_with fail
      refine (HN.out _ _).mono ?_; rintro e w1 ⟨rfl, rfl⟩
      go_wp2_with fail
      refine (HN.out _ _).mono ?_; rintro e w2 ⟨rfl, rfl⟩
      go_wp2_with fail
      go_ret
      exact ⟨ret_val (by rw [HS.out]; rfl), rfl⟩
  · rw [t1, if_pos rfl] at hs
    have HS := Lib.hid hs; clear hs
    go_enter Tryz.func218, Tryz.ntmps218
    go_wp2_with fail
    refine (HN.out _ _).mono ?_; rintro e w1 ⟨rfl, rfl⟩
    go_wp2_with fail
    refine (HN.out _ _).mono ?_; rintro e w2 ⟨rfl, rfl⟩
    go_wp2_with fail
    go_ret
    exact ⟨ret_val (by rw [HS.out]; rfl), rfl⟩
theorem cmpB_txt : ∀ a b : List UInt8, Lib.compareBytes a b = txtO a b
  | [], [] => rfl
  | [], _ :: _ => by simp [Lib.compareBytes, txtO, Op.bytesLess]
  | _ :: _, [] => by simp [Lib.compareBytes, txtO, Op.bytesLess]
  | x :: a, y :: b => by
    have ih := cmpB_txt a b
    rw [Lib.compareBytes, ih]
    unfold txtO
    rw [Op.bytesLess]
    by_cases h1 : x < y
    · simp [h1]
    · by_cases h2 : y < x
      · have : x ≠ y := by rintro rfl; exact h1 h2
        simp [h1, h2, this]
      · have : x = y := by
          apply UInt8.toNat_inj.1
          have a1 : ¬ x.toNat < y.toNat := fun h => h1 (UInt8.lt_iff_toNat_lt.2 h)
          have a2 : ¬ y.toNat < x.toNat := fun h => h2 (UInt8.lt_iff_toNat_lt.2 h)
          omega
        subst this
        simp [h1]
set_option maxRecDepth 100000 in
theorem bcompare_any (s t : ByteArray) (w : World) : Calls Tryz.prog 217 #[.string s, .string t] w fun e w' => e = .returned (.int .i64 (txtO s.toList t.toList)) ∧ w = w' := by
  have he := cmpB_txt s.data.toList t.data.toList
  rw [← ByteArray.toList_eq, ← ByteArray.toList_eq] at he
  go_enter Tryz.func217, Tryz.ntmps217
  go_wp2
  rw [run_callFunc_extern Tryz.func280 (by kernel_rfl) (by kernel_rfl) (by kernel_rfl) (e := Extern.BytealgCompare.compare) (by kernel_rfl), Lib.run_compareString]
  simp only [Result.andThen]
  rw [Oper.upon_value]
  rw [← ByteArray.toList_eq, ← ByteArray.toList_eq, he]
  go_wp2
  go_ret
  exact ⟨rfl, rfl⟩
theorem scompare_any (s t : ByteArray) (w : World) : Calls Tryz.prog 165 #[.string s, .string t] w fun e w' => e = .returned (.int .i64 (txtO s.toList t.toList)) ∧ w = w' := by
  have HB := Lib.hid (fun w => bcompare_any s t w)
  go_enter Tryz.func165, Tryz.ntmps165
  go_wp2_with fail
  refine (HB.out _).mono ?_; rintro e w1 ⟨rfl, rfl⟩
  go_wp2_with fail
  go_ret
  exact ⟨rfl, rfl⟩
set_option maxRecDepth 100000 in
set_option maxHeartbeats 2000000 in
theorem srows_any (l m : List (List UInt8)) (u v : Value) (w : World) (hu : Strs w l u) (hv : Strs w m v) : Calls Tryz.prog 166 #[u, v] w fun e w' => e = .returned (.int .i64 (rowsO l m)) ∧ w = w' := by
  obtain ⟨p, c, rfl, hln, hcu⟩ := hu.row
  obtain ⟨q, d, rfl, hlm, hcv⟩ := hv.row
  have HT := Lib.hid (fun (a b : List UInt8) w => (show Calls Tryz.prog 218 #[.string ⟨a.toArray⟩, .string ⟨b.toArray⟩] w (fun e w' => e = .returned (.int .i64 (txtO a b)) ∧ w = w') from by
    have := cmp_string ⟨a.toArray⟩ ⟨b.toArray⟩ w
    rwa [ByteArray.toList_eq, ByteArray.toList_eq] at this))
  have HCu := Lib.hid hcu; have HCv := Lib.hid hcv
  have HStep := Lib.hid (fun i (h1 : i < l.length) h2 => rowsO_step (a := l) (b := m) (i := i) h1 h2)
  have HEnd := Lib.hid (fun i (h1 : i ≤ l.length) h2 h3 => rowsO_end (a := l) (b := m) (i := i) h1 h2 h3)
  clear hu hv hcu hcv
  generalize l.length = N at *
  generalize m.length = M at *
  have h0 : Hid (rowsO l m = rowsO (l.drop 0) (m.drop 0)) := by show _ = _; rw [List.drop_zero, List.drop_zero]
  generalize rowsO l m = R at *
  go_enter Tryz.func166, Tryz.ntmps166
  go_wp2_with fail
  go_loopw [11] (fun iv wr => ∃ i : Nat, iv = .int .i64 (i : Int) ∧ i ≤ N ∧ i ≤ M ∧ Hid (R = rowsO (l.drop i) (m.drop i)) ∧ w = wr) (fun iv _ => N - (intOf iv).toNat)
  case atStart => exact ⟨0, rfl, Nat.zero_le _, Nat.zero_le _, h0, rfl⟩
  case round =>
    clear h0
    obtain ⟨i, rfl, hi, hj, hR, rfl⟩ := hrel
    by_cases hlt : i < N
    · have t0 : decide ((i : Int) < (N : Int)) = true := by simp; omega
      obtain ⟨g, off, rfl, c1⟩ := HCu.out i hlt
      have b1 : (0 : Int) ≤ (i : Int) := by omega
      have b2 : (i : Int) < (N : Int) := by omega
      by_cases hlm : i < M
      · have t1 : decide ((M : Int) ≤ (i : Int)) = false := by simp; omega
        obtain ⟨g', off', rfl, c2⟩ := HCv.out i hlm
        have hst := HStep.out i hlt hlm
        have b3 : (i : Int) < (M : Int) := by omega
        have HT2 := Lib.hid (fun w => HT.out (l.getD i []) (m.getD i []) w)
        generalize txtO (l.getD i []) (m.getD i []) = T at *
        generalize (⟨(l.getD i []).toArray⟩ : ByteArray) = s at *
        generalize (⟨(m.getD i []).toArray⟩ : ByteArray) = s' at *
        by_cases hT : T = 0
        · rw [if_pos hT] at hst
          subst hT
          have HST := Lib.hid hst; clear hst
          go_wp2_with fail
          refine (HT2.out _).mono ?_; rintro e w1 ⟨rfl, rfl⟩
          go_wp2_with fail
          go_roundw
          case rel => exact ⟨i + 1, by go_num, by omega, by omega, by show _ = _; rw [hR.out, HST.out], by first | rfl | trivial⟩
          case measure => simp [intOf]; omega
        · rw [if_neg hT] at hst
          have t2 : (T != 0) = true := by rw [bne_iff_ne]; exact hT
          have HST := Lib.hid hst; clear hst hT
          go_wp2_with fail
          refine (HT2.out _).mono ?_; rintro e w1 ⟨rfl, rfl⟩
          go_wp2_with fail
          go_ret
          exact ⟨ret_val (by rw [hR.out, HST.out]; rfl), rfl⟩
      · have t1 : decide ((M : Int) ≤ (i : Int)) = true := by simp; omega
        have HE := Lib.hid (HEnd.out i hi hj (.inr (by omega)))
        have HS := Lib.hid (show sgnI (N : Int) (M : Int) = 1 from by unfold sgnI; rw [if_neg (by omega), if_pos (by omega)])
        go_wp2_with fail
        go_ret
        exact ⟨ret_val (by rw [hR.out, HE.out, HS.out]; rfl), rfl⟩
    · have t0 : decide ((i : Int) < (N : Int)) = false := by simp; omega
      have HE := Lib.hid (HEnd.out i hi hj (.inl (by omega)))
      by_cases hlm : N < M
      · have t1 : decide ((N : Int) < (M : Int)) = true := by simp; omega
        have HS := Lib.hid (show sgnI (N : Int) (M : Int) = -1 from by unfold sgnI; rw [if_pos (by omega)])
        go_wp2_with fail
        go_ret
        exact ⟨ret_val (by rw [hR.out, HE.out, HS.out]; rfl), rfl⟩
      · have t1 : decide ((N : Int) < (M : Int)) = false := by simp; omega
        have HS := Lib.hid (show sgnI (N : Int) (M : Int) = 0 from by unfold sgnI; rw [if_neg (by omega), if_neg (by omega)])
        go_wp2_with fail
        go_ret
        exact ⟨ret_val (by rw [hR.out, HE.out, HS.out]; rfl), rfl⟩
set_option maxRecDepth 100000 in
set_option maxHeartbeats 2000000 in
theorem or3_any (a b c : Int) (g : Nat) (w : World) (h0 : w.cell? ⟨g, 0, none⟩ = some (.int .i64 a)) (h1 : w.cell? ⟨g, 1, none⟩ = some (.int .i64 b)) (h2 : w.cell? ⟨g, 2, none⟩ = some (.int .i64 c)) :
    Calls Tryz.prog 167 #[.slice (some ⟨g, 0, none⟩) 3 3] w fun e w' => e = .returned (.int .i64 (if a = 0 then (if b = 0 then c else b) else a)) ∧ w = w' := by
  generalize hr : (if a = 0 then (if b = 0 then c else b) else a) = r
  have HR := Lib.hid hr; clear hr
  by_cases ha : a = 0
  · subst ha
    by_cases hb : b = 0
    · subst hb
      have HR2 := Lib.hid (show c = r from by rw [← HR.out, if_pos rfl, if_pos rfl])
      by_cases hc : c = 0
      · subst hc
        go_enter Tryz.func167, Tryz.ntmps167
        go_wp2_with fail
        refine wp_loop_rounds 4 ?_
        rw [rounds_succ]
        go_wp2_with fail
        rw [rounds_succ]
        go_wp2_with fail
        rw [rounds_succ]
        go_wp2_with fail
        rw [rounds_succ]
        go_wp2_with fail
        go_ret
        exact ⟨ret_val (by rw [← HR2.out]; rfl), rfl⟩
      · have tc : (c != 0) = true := by rw [bne_iff_ne]; exact hc
        clear hc
        go_enter Tryz.func167, Tryz.ntmps167
        go_wp2_with fail
        refine wp_loop_rounds 3 ?_
        rw [rounds_succ]
        go_wp2_with fail
        rw [rounds_succ]
        go_wp2_with fail
        rw [rounds_succ]
        go_wp2_with fail
        go_ret
        exact ⟨ret_val (by rw [← HR2.out]; rfl), rfl⟩
    · have tb : (b != 0) = true := by rw [bne_iff_ne]; exact hb
      have HR2 := Lib.hid (show b = r from by rw [← HR.out, if_pos rfl, if_neg hb])
      clear hb
      go_enter Tryz.func167, Tryz.ntmps167
      go_wp2_with fail
      refine wp_loop_rounds 2 ?_
      rw [rounds_succ]
      go_wp2_with fail
      rw [rounds_succ]
      go_wp2_with fail
      go_ret
      exact ⟨ret_val (by rw [← HR2.out]; rfl), rfl⟩
  · have ta : (a != 0) = true := by rw [bne_iff_ne]; exact ha
    have HR2 := Lib.hid (show a = r from by rw [← HR.out, if_neg ha])
    clear ha
    go_enter Tryz.func167, Tryz.ntmps167
    go_wp2_with fail
    refine wp_loop_rounds 1 ?_
    rw [rounds_succ]
    go_wp2_with fail
    go_ret
    exact ⟨ret_val (by rw [← HR2.out]; rfl), rfl⟩
theorem leaf_yes (k : Int) (h : 1 ≤ k ∧ k ≤ 4) (w : World) : Calls Tryz.prog 100 #[.int .i64 k] w fun e w' => e = .returned (.bool true) ∧ w = w' := by
  have t1 : decide ((1 : Int) ≤ k) = true := decide_eq_true h.1
  have t2 : decide (k ≤ (4 : Int)) = true := decide_eq_true h.2
  clear h
  go_enter Tryz.func100, Tryz.ntmps100
  go_wp2_with fail
  go_ret
  exact ⟨rfl, rfl⟩
theorem leaf_no (k : Int) (h : ¬ (1 ≤ k ∧ k ≤ 4)) (w : World) : Calls Tryz.prog 100 #[.int .i64 k] w fun e w' => e = .returned (.bool false) ∧ w = w' := by
  by_cases h1 : 1 ≤ k
  · have t1 : decide ((1 : Int) ≤ k) = true := decide_eq_true h1
    have t2 : decide (k ≤ (4 : Int)) = false := decide_eq_false (by omega)
    clear h h1
    go_enter Tryz.func100, Tryz.ntmps100
    go_wp2_with fail
    go_ret
    exact ⟨rfl, rfl⟩
  · have t1 : decide ((1 : Int) ≤ k) = false := decide_eq_false h1
    clear h h1
    go_enter Tryz.func100, Tryz.ntmps100
    go_wp2_with fail
    go_ret
    exact ⟨rfl, rfl⟩
end
section
open Go.RowKit
set_option maxHeartbeats 400000 in
theorem rank_any (b : Nat) (hb : F64 b) (w : World) : Calls Tryz.prog 216 #[.float .f64 b] w fun e w' => e = .returned (.tuple #[.int .i64 (rank1 b), .int .i64 (rank2 b)]) ∧ w = w' := by
  have h1 := ord_ne b b
  rw [feq_self] at h1
  have hz : Fl.feq b 0 = (!Fl.isNaN b && isZ b) := by
    unfold Fl.feq Fl.K isZ
    cases Fl.isNaN b <;> simp [show Fl.isNaN 0 = false from by decide, show Fl.rg 0 = 0 from by decide, show Fl.ng 0 = false from by decide]
    cases Fl.ng b <;> simp
  have h2 := ord_eq b 0
  rw [hz] at h2
  clear hz
  cases hn : Fl.isNaN b
  · rw [hn] at h1 h2
    cases hz : isZ b
    · rw [hz] at h2
      have H1 := Lib.hid (show rank1 b = 0 from by simp [rank1, hn])
      have H2 := Lib.hid (show rank2 b = 0 from by simp [rank2, hn, hz])
      go_enter Tryz.func216, Tryz.ntmps216
      go_wp2
      go_ret2
      exact ⟨ret_val (by rw [H1.out, H2.out]; rfl), rfl⟩
    · have hr : Fl.rg b = 0 := by simpa [isZ] using hz
      rcases ng_cases hb with ⟨h, he⟩ | ⟨h, he⟩
      · rw [hr] at he
        have H1 := Lib.hid (show rank1 b = 0 from by simp [rank1, hn])
        have H2 := Lib.hid (show rank2 b = -1 from by simp [rank2, hn, hz, h])
        clear hn hz h hr h1 h2 hb
        subst he
        have hq := fun w => run_float_arith (P := Tryz.prog) w .quo 30 .f64 4607182418800017408 9223372036854775808 18442240474082181120 (by kernel_rfl)
        have e1 : FloatKind.f64.format.order 9223372036854775808 9223372036854775808 = some .eq := by kernel_rfl
        have e2 : FloatKind.f64.format.order 9223372036854775808 0 = some .eq := by kernel_rfl
        have e3 : FloatKind.f64.format.order 18442240474082181120 0 = some .lt := by kernel_rfl
        go_enter Tryz.func216, Tryz.ntmps216
        go_wp2
        go_ret2
        exact ⟨ret_val (by rw [H1.out, H2.out]; rfl), rfl⟩
      · rw [hr] at he
        have H1 := Lib.hid (show rank1 b = 0 from by simp [rank1, hn])
        have H2 := Lib.hid (show rank2 b = 0 from by simp [rank2, hn, hz, h])
        clear hn hz h hr h1 h2 hb
        subst he
        have hq := fun w => run_float_arith (P := Tryz.prog) w .quo 30 .f64 4607182418800017408 0 9218868437227405312 (by kernel_rfl)
        have e1 : FloatKind.f64.format.order 0 0 = some .eq := by kernel_rfl
        have e3 : FloatKind.f64.format.order 9218868437227405312 0 = some .gt := by kernel_rfl
        go_enter Tryz.func216, Tryz.ntmps216
        go_wp2
        go_ret2
        exact ⟨ret_val (by rw [H1.out, H2.out]; rfl), rfl⟩
  · rw [hn] at h1
    have H1 := Lib.hid (show rank1 b = 1 from by simp [rank1, hn])
    have H2 := Lib.hid (show rank2 b = 0 from by simp [rank2, hn])
    go_enter Tryz.func216, Tryz.ntmps216
    go_wp2
    go_ret2
    exact ⟨ret_val (by rw [H1.out, H2.out]; rfl), rfl⟩
def ordO (r1a r1b r2a r2b : Int) (o : Option Ordering) : Int :=
  if r1a ≠ r1b then r1a - r1b else if r1a = 1 then 0
  else if (o == some .lt) || ((o == some .eq) && decide (r2a < r2b)) then -1
  else if (o == some .gt) || ((o == some .eq) && decide (r2b < r2a)) then 1 else 0
theorem ordB_O (a b : Nat) : ordB a b = ordO (rank1 a) (rank1 b) (rank2 a) (rank2 b) (FloatKind.f64.format.order a b) := by
  rw [← ordF_eq]; unfold ordF ordO
  have h3 : Fl.feq a b = (FloatKind.f64.format.order a b == some .eq) := (ord_eq a b).symm
  rw [ord_lt, ord_gt, ← h3]
theorem rank1_or (b : Nat) : rank1 b = 0 ∨ rank1 b = 1 := by unfold rank1; split <;> simp
theorem rank2_or (b : Nat) : rank2 b = 0 ∨ rank2 b = -1 := by unfold rank2; split <;> (try split) <;> simp
set_option maxHeartbeats 1600000 in
theorem order_any (a b : Nat) (ha : F64 a) (hb : F64 b) (w : World) : Calls Tryz.prog 164 #[.float .f64 a, .float .f64 b] w fun e w' => e = .returned (.int .i64 (ordB a b)) ∧ w = w' := by
  have HK := Lib.hid (ordB_O a b)
  rcases rank1_or a with ea | ea <;> rcases rank1_or b with eb | eb
  case inl.inl =>
    rcases rank2_or a with fa | fa <;> rcases rank2_or b with fb | fb <;> rcases ho : FloatKind.f64.format.order a b with _ | o
    all_goals (try cases o)
    all_goals
      rw [ea, eb, fa, fb, ho] at HK
      go_enter Tryz.func164, Tryz.ntmps164
      go_wp2_with fail
      refine (rank_any _ ha _).mono ?_; rintro e w' ⟨rfl, rfl⟩
      go_wp2_with fail
      refine (rank_any _ hb _).mono ?_; rintro e w' ⟨rfl, rfl⟩
      go_wp2_with fail
      go_ret
      exact ⟨ret_val (by rw [HK.out]; rfl), rfl⟩
  all_goals
    have HV : Hid (ordB a b = rank1 a - rank1 b) := by unfold Hid; rw [HK.out, ea, eb]; unfold ordO; split <;> simp_all
    rw [ea, eb] at HV
    go_enter Tryz.func164, Tryz.ntmps164
    go_wp2_with fail
    refine (rank_any _ ha _).mono ?_; rintro e w' ⟨rfl, rfl⟩
    go_wp2_with fail
    refine (rank_any _ hb _).mono ?_; rintro e w' ⟨rfl, rfl⟩
    go_wp2_with fail
    go_ret
    exact ⟨ret_val (by rw [HV.out]; rfl), rfl⟩
end
section
open Go.RowKit
theorem Strs.lenOf {w : World} {l : List (List UInt8)} {v : Value} (h : Strs w l v) : ∃ p cap, v = .slice p l.length cap := by
  rcases h.2.2 with ⟨rfl, p, c, hp⟩ | ⟨g, off, cap, hp, _⟩
  · exact ⟨p, c, hp⟩
  · exact ⟨_, cap, hp⟩
end
section
open Go.RowKit
theorem ValAt.six {w : World} {d : Nat} {v : VT} {cs : Array Value} (h : ValAt w d v cs) : ∃ pn p cap, cs = #[.int .i64 v.kind, .int .i64 v.num, .float .f64 v.flt, .string ⟨v.str.toArray⟩, pn, .slice p v.items.length cap] := by
  cases d with
  | zero => exact h.elim
  | succ d =>
    obtain ⟨pn, pi, rfl, _, _, _, _, _, _, h8⟩ := h
    rcases h8 with ⟨h8, p, c, rfl⟩ | ⟨g, off, cap, rfl, _⟩
    · exact ⟨pn, p, c, by rw [h8]; rfl⟩
    · exact ⟨pn, _, cap, rfl⟩
end
section
open Go.RowKit
theorem ValAt.sixS {w : World} {d : Nat} {v : VT} {cs : Array Value} (h : ValAt w d v cs) : ∃ pp pc p cap, cs = #[.int .i64 v.kind, .int .i64 v.num, .float .f64 v.flt, .string ⟨v.str.toArray⟩, .slice pp v.names.length pc, .slice p v.items.length cap] := by
  cases d with
  | zero => exact h.elim
  | succ d =>
    obtain ⟨pn, p, cap, h0⟩ := h.six
    obtain ⟨a, b, h1, _, _, _, _, h6, _⟩ := h
    obtain ⟨pp, pc, hp⟩ := h6.lenOf
    have h2 := h0.symm.trans h1
    simp only [Array.mk.injEq, List.cons.injEq] at h2
    exact ⟨pp, pc, p, cap, by rw [h0, h2.2.2.2.2.1, hp]⟩
/-- operations still to be run, not to be laid open -/
structure StillG (P : Program) (ops : Array Oper) (w : World) (Q : Act → Prop) (l : List Oper) (a : Act) : Prop where
  out : wpStill P ops w Q l a
theorem StillG.nil {P : Program} {ops : Array Oper} {w : World} {Q : Act → Prop} {a : Act} (h : Q a) : StillG P ops w Q [] a := ⟨wpStill_nil h⟩
theorem StillG.step {P : Program} {ops : Array Oper} {w : World} {Q : Act → Prop} {a : Act} {o : Oper} {rest : List Oper}
    (h : ∀ K : Act → Prop, (∀ a, StillG P ops w Q rest a → K a) → if Region.wanted o (yielded ops a.tmps) then o.still P a w K else K (a.put o.dst undef)) : StillG P ops w Q (o :: rest) a :=
  ⟨wpStill_step fun K hK => h K fun a ha => hK a ha.out⟩
theorem wp_still_tailG {P : Program} {w : World} {id : Nat} {Q : Exit → Act → World → Prop} {a : Act} {l : List Oper} (n : Nat) (hm : P.follows .mixedOrders = true) (hB : Region.lexTailB .any l.toArray n = true)
    (h : StillG P l.toArray w.drew (fun a' => wpList P l.toArray Q (l.drop n) a' w.drew) (l.take n) a) : (Code.region id l.toArray true).wp P Q a w :=
  wp_region_still_tail n hm hB h.out
theorem ordB_can {a b : Nat} (h : canon a = canon b) : ordB a b = 0 := by
  have hk : keyB a = keyB b := by
    unfold canon at h
    unfold keyB
    by_cases ha : Fl.isNaN a = true
    · by_cases hb : Fl.isNaN b = true
      · rw [if_pos ha, if_pos hb]
      · rw [if_pos ha, if_neg hb] at h
        subst h
        exact absurd nan_cnan hb
    · by_cases hb : Fl.isNaN b = true
      · rw [if_neg ha, if_pos hb] at h
        subst h
        exact absurd nan_cnan ha
      · rw [if_neg ha, if_neg hb] at h
        rw [h]
  unfold ordB
  rw [hk]
  simp
end
section
open Go.RowKit
def IffB (b : Bool) (P : Prop) : Prop := b = true ↔ P
theorem IffB.to {b : Bool} {P : Prop} (h : IffB b P) : b = true ↔ P := h
theorem ValAt.boxes {w : World} {d : Nat} {v : VT} {cs : Array Value} (h : ValAt w (d + 1) v cs) {p : Option Addr} {cap : Nat} {z0 z1 z2 z3 z4 : Value} (hc : cs = #[z0, z1, z2, z3, z4, .slice p v.items.length cap]) :
    ∀ i, i < v.items.length → ∃ g off, p = some ⟨g, off, none⟩ ∧ g < w.heap.size ∧ ∃ ds, ValAt w d (v.items.getD i noVT) ds ∧ ∀ j, j < 6 → w.cell? ⟨g, off + i * 6 + j, none⟩ = ds[j]? := by
  intro i hi
  obtain ⟨pn, pi, h1, _, _, _, _, _, _, h8⟩ := h
  have h2 := hc.symm.trans h1
  simp only [Array.mk.injEq, List.cons.injEq] at h2
  have h3 := h2.2.2.2.2.2.1
  rcases h8 with ⟨h8, _⟩ | ⟨g, off, c, h8, h9, h10⟩
  · rw [h8] at hi; simp at hi
  · rw [h8] at h3
    injection h3 with h3 _ _
    exact ⟨g, off, h3, h9, h10 i hi⟩
theorem ValAt.strs {w : World} {d : Nat} {v : VT} {cs : Array Value} (h : ValAt w (d + 1) v cs) {z0 z1 z2 z3 z4 z5 : Value} (hc : cs = #[z0, z1, z2, z3, z4, z5]) : Strs w v.names z4 ∧ F64 v.flt ∧ v.items.length ≤ 140737488355328 := by
  obtain ⟨pn, pi, h1, _, _, hf, _, h6, h7, _⟩ := h
  have h2 := hc.symm.trans h1
  simp only [Array.mk.injEq, List.cons.injEq] at h2
  rw [h2.2.2.2.2.1]
  exact ⟨h6, hf, h7⟩
theorem ValAt.ints {w : World} {d : Nat} {v : VT} {cs : Array Value} (h : ValAt w d v cs) : (-9223372036854775808 ≤ v.kind ∧ v.kind ≤ 9223372036854775807) ∧ (-9223372036854775808 ≤ v.num ∧ v.num ≤ 9223372036854775807) := by
  rcases d with _ | d
  · exact h.elim
  · obtain ⟨pn, pi, h1, h2, h3, _⟩ := h
    exact ⟨h2, h3⟩
set_option maxRecDepth 100000 in
set_option maxHeartbeats 16000000 in
theorem rOrder_step (d d2 : Nat) (a b : VT) (ca cb : Array Value) (w : World)
    (ih : ∀ (d2 : Nat) (a b : VT) (ca cb : Array Value) (w : World), ValAt w d a ca → ValAt w d2 b cb → Calls Tryz.prog 102 #[.agg ca, .agg cb] w (Gives (.int .i64 (ordV a b)) w))
    (ha : ValAt w (d + 1) a ca) (hb : ValAt w (d2 + 1) b cb) : Calls Tryz.prog 102 #[.agg ca, .agg cb] w (Gives (.int .i64 (ordV a b)) w) := by
  obtain ⟨pp, pc, p, cap, hca⟩ := ha.sixS
  obtain ⟨pp', pc', p', cap', hcb⟩ := hb.sixS
  have hia := ha.boxes hca
  have hib := hb.boxes hcb
  obtain ⟨hsa, hfa, hNb⟩ := ha.strs hca
  obtain ⟨hsb, hfb, hNb'⟩ := hb.strs hcb
  obtain ⟨⟨kA1, kA2⟩, xA1, xA2⟩ := ha.ints
  obtain ⟨⟨kB1, kB2⟩, xB1, xB2⟩ := hb.ints
  subst hca; subst hcb
  clear ha hb
  have hr0 := fun h => ordV_ne (a := a) (b := b) h
  have hr1 := fun h k => ordV_n (a := a) (b := b) h k
  have hr3 := fun h k => ordV_f (a := a) (b := b) h k
  have hr4 := fun h k => ordV_s (a := a) (b := b) h k
  have hrg := fun h k1 k2 k3 k4 => ordV_gen (a := a) (b := b) h k1 k2 k3 k4
  have hp0 := fun h => preO_l (a := a) (b := b) h
  have hp1 := fun h k l => preO_n (a := a) (b := b) h k l
  have hp2 := fun h k l => preO_s (a := a) (b := b) h k l
  have hq0 := fun h k => headO_r (a := a) (b := b) h k
  have hq1 : ¬ (preO a b = 0 ∧ a.kind ≠ 5) → headO a b = preO a b := fun h => by unfold headO; rw [if_neg h]
  have hstep := fun i (h1 : i < a.items.length) h2 => ordL_step (a := a.items) (b := b.items) (i := i) h1 h2
  have hend := fun i (h1 : i ≤ a.items.length) h2 h3 => ordL_end (a := a.items) (b := b.items) (i := i) h1 h2 h3
  have hft := fun w => rtext_ords a.str b.str w
  have hfo := fun w => rorder_any a.flt b.flt hfa hfb w
  generalize ordV a b = R at *
  generalize preO a b = c1 at *
  generalize headO a b = c2 at *
  generalize a.kind = K at *
  generalize b.kind = K' at *
  generalize a.num = X at *
  generalize b.num = X' at *
  generalize txtO a.str b.str = T at *
  generalize (⟨a.str.toArray⟩ : ByteArray) = S at *
  generalize (⟨b.str.toArray⟩ : ByteArray) = S' at *
  generalize ordB a.flt b.flt = FO at *
  generalize a.flt = fa at *
  generalize b.flt = fb at *
  have hfw := fun x (h : Below w.heap.size w x) => rrows_any a.names b.names (.slice pp a.names.length pc) (.slice pp' b.names.length pc') x (hsa.kept h) (hsb.kept h)
  generalize rowsO a.names b.names = RO at *
  generalize a.names.length = M at *
  generalize b.names.length = M' at *
  generalize a.items = its at *
  generalize b.items = its' at *
  generalize its.length = N at *
  generalize its'.length = N' at *
  have HP0 := Lib.hid hp0; have HP1 := Lib.hid hp1; have HP2 := Lib.hid hp2; have HQ0 := Lib.hid hq0; have HQ1 := Lib.hid hq1
  have HStep := Lib.hid hstep; have HEnd := Lib.hid hend
  have hB : Below w.heap.size w ((w.alloc (.cells #[.int .i64 K, .int .i64 X, .float .f64 fa, .string S, .slice pp M pc, .slice p N cap] 34)).alloc (.cells #[.int .i64 K', .int .i64 X', .float .f64 fb, .string S', .slice pp' M' pc', .slice p' N' cap'] 34)) := ((Below.refl _ _).alloc (Nat.le_refl _) _).alloc (by simp) _
  have e1 : (w.alloc (.cells #[.int .i64 K, .int .i64 X, .float .f64 fa, .string S, .slice pp M pc, .slice p N cap] 34)).heap.size = w.heap.size + 1 := by simp
  have hnA : ((w.alloc (.cells #[.int .i64 K, .int .i64 X, .float .f64 fa, .string S, .slice pp M pc, .slice p N cap] 34)).alloc (.cells #[.int .i64 K', .int .i64 X', .float .f64 fb, .string S', .slice pp' M' pc', .slice p' N' cap'] 34)).heap[w.heap.size]? = some (.cells #[.int .i64 K, .int .i64 X, .float .f64 fa, .string S, .slice pp M pc, .slice p N cap] 34 (0, 0)) := by
    rw [Lib.alloc_old _ _ _ (by simp)]; exact heap_alloc_new w _
  have hnB : ((w.alloc (.cells #[.int .i64 K, .int .i64 X, .float .f64 fa, .string S, .slice pp M pc, .slice p N cap] 34)).alloc (.cells #[.int .i64 K', .int .i64 X', .float .f64 fb, .string S', .slice pp' M' pc', .slice p' N' cap'] 34)).heap[w.heap.size + 1]? = some (.cells #[.int .i64 K', .int .i64 X', .float .f64 fb, .string S', .slice pp' M' pc', .slice p' N' cap'] 34 (0, 0)) := by
    have := heap_alloc_new (w.alloc (.cells #[.int .i64 K, .int .i64 X, .float .f64 fa, .string S, .slice pp M pc, .slice p N cap] 34)) (.cells #[.int .i64 K', .int .i64 X', .float .f64 fb, .string S', .slice pp' M' pc', .slice p' N' cap'] 34)
    rwa [e1] at this
  have HBl := Lib.hid (fun x (h : Below ((w.alloc (.cells #[.int .i64 K, .int .i64 X, .float .f64 fa, .string S, .slice pp M pc, .slice p N cap] 34)).alloc (.cells #[.int .i64 K', .int .i64 X', .float .f64 fb, .string S', .slice pp' M' pc', .slice p' N' cap'] 34)).heap.size ((w.alloc (.cells #[.int .i64 K, .int .i64 X, .float .f64 fa, .string S, .slice pp M pc, .slice p N cap] 34)).alloc (.cells #[.int .i64 K', .int .i64 X', .float .f64 fb, .string S', .slice pp' M' pc', .slice p' N' cap'] 34)) x) => (show x.heap[w.heap.size]? = some (.cells #[.int .i64 K, .int .i64 X, .float .f64 fa, .string S, .slice pp M pc, .slice p N cap] 34 (0, 0)) ∧ x.heap[w.heap.size + 1]? = some (.cells #[.int .i64 K', .int .i64 X', .float .f64 fb, .string S', .slice pp' M' pc', .slice p' N' cap'] 34 (0, 0)) from ⟨(h.block _ (lt_of_block hnA)).trans hnA, (h.block _ (lt_of_block hnB)).trans hnB⟩))
  have HIA := Lib.hid (fun i (hi : i < N) x (h : Below ((w.alloc (.cells #[.int .i64 K, .int .i64 X, .float .f64 fa, .string S, .slice pp M pc, .slice p N cap] 34)).alloc (.cells #[.int .i64 K', .int .i64 X', .float .f64 fb, .string S', .slice pp' M' pc', .slice p' N' cap'] 34)).heap.size ((w.alloc (.cells #[.int .i64 K, .int .i64 X, .float .f64 fa, .string S, .slice pp M pc, .slice p N cap] 34)).alloc (.cells #[.int .i64 K', .int .i64 X', .float .f64 fb, .string S', .slice pp' M' pc', .slice p' N' cap'] 34)) x) => (show ∃ g off, p = some ⟨g, off, none⟩ ∧ ∃ ds, ValAt x d (its.getD i noVT) ds ∧ x.cell? ⟨g, off + i * 6 + 0, none⟩ = ds[0]? ∧ x.cell? ⟨g, off + i * 6 + 1, none⟩ = ds[1]? ∧ x.cell? ⟨g, off + i * 6 + 2, none⟩ = ds[2]? ∧ x.cell? ⟨g, off + i * 6 + 3, none⟩ = ds[3]? ∧ x.cell? ⟨g, off + i * 6 + 4, none⟩ = ds[4]? ∧ x.cell? ⟨g, off + i * 6 + 5, none⟩ = ds[5]? from by
    obtain ⟨g, off, h1, h2, ds, h3, h4⟩ := hia i hi
    have hx := hB.trans (h.mono hB.size)
    have hc := fun j (hj : j < 6) => (hx.cell (p := ⟨g, off + i * 6 + j, none⟩) h2).trans (h4 j hj)
    exact ⟨g, off, h1, ds, h3.kept hx, hc 0 (by omega), hc 1 (by omega), hc 2 (by omega), hc 3 (by omega), hc 4 (by omega), hc 5 (by omega)⟩))
  have HIB := Lib.hid (fun i (hi : i < N') x (h : Below ((w.alloc (.cells #[.int .i64 K, .int .i64 X, .float .f64 fa, .string S, .slice pp M pc, .slice p N cap] 34)).alloc (.cells #[.int .i64 K', .int .i64 X', .float .f64 fb, .string S', .slice pp' M' pc', .slice p' N' cap'] 34)).heap.size ((w.alloc (.cells #[.int .i64 K, .int .i64 X, .float .f64 fa, .string S, .slice pp M pc, .slice p N cap] 34)).alloc (.cells #[.int .i64 K', .int .i64 X', .float .f64 fb, .string S', .slice pp' M' pc', .slice p' N' cap'] 34)) x) => (show ∃ g off, p' = some ⟨g, off, none⟩ ∧ ∃ ds, ValAt x d2 (its'.getD i noVT) ds ∧ x.cell? ⟨g, off + i * 6 + 0, none⟩ = ds[0]? ∧ x.cell? ⟨g, off + i * 6 + 1, none⟩ = ds[1]? ∧ x.cell? ⟨g, off + i * 6 + 2, none⟩ = ds[2]? ∧ x.cell? ⟨g, off + i * 6 + 3, none⟩ = ds[3]? ∧ x.cell? ⟨g, off + i * 6 + 4, none⟩ = ds[4]? ∧ x.cell? ⟨g, off + i * 6 + 5, none⟩ = ds[5]? from by
    obtain ⟨g, off, h1, h2, ds, h3, h4⟩ := hib i hi
    have hx := hB.trans (h.mono hB.size)
    have hc := fun j (hj : j < 6) => (hx.cell (p := ⟨g, off + i * 6 + j, none⟩) h2).trans (h4 j hj)
    exact ⟨g, off, h1, ds, h3.kept hx, hc 0 (by omega), hc 1 (by omega), hc 2 (by omega), hc 3 (by omega), hc 4 (by omega), hc 5 (by omega)⟩))
  have HW := Lib.hid (fun x (h : Below ((w.alloc (.cells #[.int .i64 K, .int .i64 X, .float .f64 fa, .string S, .slice pp M pc, .slice p N cap] 34)).alloc (.cells #[.int .i64 K', .int .i64 X', .float .f64 fb, .string S', .slice pp' M' pc', .slice p' N' cap'] 34)).heap.size ((w.alloc (.cells #[.int .i64 K, .int .i64 X, .float .f64 fa, .string S, .slice pp M pc, .slice p N cap] 34)).alloc (.cells #[.int .i64 K', .int .i64 X', .float .f64 fb, .string S', .slice pp' M' pc', .slice p' N' cap'] 34)) x) => hfw x (hB.trans (h.mono hB.size)))
  have HS := Lib.hid (fun n m w => rsign_any n m w)
  have HT := Lib.hid hft
  have HF := Lib.hid hfo
  have IH := Lib.hid ih
  have HR0 := Lib.hid hr0; have HR1 := Lib.hid hr1; have HR3 := Lib.hid hr3; have HR4 := Lib.hid hr4; have HRG := Lib.hid hrg
  clear hnA hnB e1 hia hib hsa hsb hfa hfb hfo hft hfw ih hp0 hp1 hp2 hq0 hq1 hstep hend hr0 hr1 hr3 hr4 hrg
  generalize hgh : w.heap.size = H at *
  have HH := Lib.hid hgh; clear hgh
  by_cases hk : K = K'
  · subst hk
    have HR1 := Lib.hid (HR1.out rfl); have HR3 := Lib.hid (HR3.out rfl); have HR4 := Lib.hid (HR4.out rfl); have HRG := Lib.hid (HRG.out rfl)
    have t0 : (K != K) = false := by simp
    by_cases k1 : K = 1
    · have HR := Lib.hid (HR1.out (.inl k1))
      subst k1
      go_enter Tryz.func102, Tryz.ntmps102
      go_upto_region 1 with (fail)
      rw [HH.out]
      generalize (w.alloc (.cells #[.int .i64 1, .int .i64 X, .float .f64 fa, .string S, .slice pp M pc, .slice p N cap] 34)).alloc (.cells #[.int .i64 1, .int .i64 X', .float .f64 fb, .string S', .slice pp' M' pc', .slice p' N' cap'] 34) = W1 at *
      have nA := (HBl.out _ (Below.refl _ _)).1; have nB := (HBl.out _ (Below.refl _ _)).2
      have a0 : W1.cell? ⟨H, 0, none⟩ = some (.int .i64 1) := by rw [Lib.cell_of_heap nA]; rfl
      have b0 : W1.cell? ⟨H + 1, 0, none⟩ = some (.int .i64 1) := by rw [Lib.cell_of_heap nB]; rfl
      have a1 : W1.cell? ⟨H, 1, none⟩ = some (.int .i64 X) := by rw [Lib.cell_of_heap nA]; rfl
      have b1 : W1.cell? ⟨H + 1, 1, none⟩ = some (.int .i64 X') := by rw [Lib.cell_of_heap nB]; rfl
      have a2 : W1.cell? ⟨H, 2, none⟩ = some (.float .f64 fa) := by rw [Lib.cell_of_heap nA]; rfl
      have b2 : W1.cell? ⟨H + 1, 2, none⟩ = some (.float .f64 fb) := by rw [Lib.cell_of_heap nB]; rfl
      have a3 : W1.cell? ⟨H, 3, none⟩ = some (.string S) := by rw [Lib.cell_of_heap nA]; rfl
      have b3 : W1.cell? ⟨H + 1, 3, none⟩ = some (.string S') := by rw [Lib.cell_of_heap nB]; rfl
      have a4 : W1.cell? ⟨H, 4, none⟩ = some (.slice pp M pc) := by rw [Lib.cell_of_heap nA]; rfl
      have b4 : W1.cell? ⟨H + 1, 4, none⟩ = some (.slice pp' M' pc') := by rw [Lib.cell_of_heap nB]; rfl
      have a5 : W1.cell? ⟨H, 5, none⟩ = some (.slice p N cap) := by rw [Lib.cell_of_heap nA]; rfl
      have b5 : W1.cell? ⟨H + 1, 5, none⟩ = some (.slice p' N' cap') := by rw [Lib.cell_of_heap nB]; rfl
      clear nA nB
      go_wp2_with (go_at_call 168; refine (HS.out _ _ _).mono ?_; rintro e w' ⟨rfl, rfl⟩)
      go_ret
      exact ⟨ret_val (by rw [HR.out]; rfl), by rw [HH.out]; exact hB⟩
    by_cases k2 : K = 2
    · have HR := Lib.hid (HR1.out (.inr k2))
      subst k2
      go_enter Tryz.func102, Tryz.ntmps102
      go_upto_region 1 with (fail)
      rw [HH.out]
      generalize (w.alloc (.cells #[.int .i64 2, .int .i64 X, .float .f64 fa, .string S, .slice pp M pc, .slice p N cap] 34)).alloc (.cells #[.int .i64 2, .int .i64 X', .float .f64 fb, .string S', .slice pp' M' pc', .slice p' N' cap'] 34) = W1 at *
      have nA := (HBl.out _ (Below.refl _ _)).1; have nB := (HBl.out _ (Below.refl _ _)).2
      have a0 : W1.cell? ⟨H, 0, none⟩ = some (.int .i64 2) := by rw [Lib.cell_of_heap nA]; rfl
      have b0 : W1.cell? ⟨H + 1, 0, none⟩ = some (.int .i64 2) := by rw [Lib.cell_of_heap nB]; rfl
      have a1 : W1.cell? ⟨H, 1, none⟩ = some (.int .i64 X) := by rw [Lib.cell_of_heap nA]; rfl
      have b1 : W1.cell? ⟨H + 1, 1, none⟩ = some (.int .i64 X') := by rw [Lib.cell_of_heap nB]; rfl
      have a2 : W1.cell? ⟨H, 2, none⟩ = some (.float .f64 fa) := by rw [Lib.cell_of_heap nA]; rfl
      have b2 : W1.cell? ⟨H + 1, 2, none⟩ = some (.float .f64 fb) := by rw [Lib.cell_of_heap nB]; rfl
      have a3 : W1.cell? ⟨H, 3, none⟩ = some (.string S) := by rw [Lib.cell_of_heap nA]; rfl
      have b3 : W1.cell? ⟨H + 1, 3, none⟩ = some (.string S') := by rw [Lib.cell_of_heap nB]; rfl
      have a4 : W1.cell? ⟨H, 4, none⟩ = some (.slice pp M pc) := by rw [Lib.cell_of_heap nA]; rfl
      have b4 : W1.cell? ⟨H + 1, 4, none⟩ = some (.slice pp' M' pc') := by rw [Lib.cell_of_heap nB]; rfl
      have a5 : W1.cell? ⟨H, 5, none⟩ = some (.slice p N cap) := by rw [Lib.cell_of_heap nA]; rfl
      have b5 : W1.cell? ⟨H + 1, 5, none⟩ = some (.slice p' N' cap') := by rw [Lib.cell_of_heap nB]; rfl
      clear nA nB
      go_wp2_with (go_at_call 168; refine (HS.out _ _ _).mono ?_; rintro e w' ⟨rfl, rfl⟩)
      go_ret
      exact ⟨ret_val (by rw [HR.out]; rfl), by rw [HH.out]; exact hB⟩
    by_cases k3 : K = 3
    · have HR := Lib.hid (HR3.out k3)
      subst k3
      go_enter Tryz.func102, Tryz.ntmps102
      go_upto_region 1 with (fail)
      rw [HH.out]
      generalize (w.alloc (.cells #[.int .i64 3, .int .i64 X, .float .f64 fa, .string S, .slice pp M pc, .slice p N cap] 34)).alloc (.cells #[.int .i64 3, .int .i64 X', .float .f64 fb, .string S', .slice pp' M' pc', .slice p' N' cap'] 34) = W1 at *
      have nA := (HBl.out _ (Below.refl _ _)).1; have nB := (HBl.out _ (Below.refl _ _)).2
      have a0 : W1.cell? ⟨H, 0, none⟩ = some (.int .i64 3) := by rw [Lib.cell_of_heap nA]; rfl
      have b0 : W1.cell? ⟨H + 1, 0, none⟩ = some (.int .i64 3) := by rw [Lib.cell_of_heap nB]; rfl
      have a1 : W1.cell? ⟨H, 1, none⟩ = some (.int .i64 X) := by rw [Lib.cell_of_heap nA]; rfl
      have b1 : W1.cell? ⟨H + 1, 1, none⟩ = some (.int .i64 X') := by rw [Lib.cell_of_heap nB]; rfl
      have a2 : W1.cell? ⟨H, 2, none⟩ = some (.float .f64 fa) := by rw [Lib.cell_of_heap nA]; rfl
      have b2 : W1.cell? ⟨H + 1, 2, none⟩ = some (.float .f64 fb) := by rw [Lib.cell_of_heap nB]; rfl
      have a3 : W1.cell? ⟨H, 3, none⟩ = some (.string S) := by rw [Lib.cell_of_heap nA]; rfl
      have b3 : W1.cell? ⟨H + 1, 3, none⟩ = some (.string S') := by rw [Lib.cell_of_heap nB]; rfl
      have a4 : W1.cell? ⟨H, 4, none⟩ = some (.slice pp M pc) := by rw [Lib.cell_of_heap nA]; rfl
      have b4 : W1.cell? ⟨H + 1, 4, none⟩ = some (.slice pp' M' pc') := by rw [Lib.cell_of_heap nB]; rfl
      have a5 : W1.cell? ⟨H, 5, none⟩ = some (.slice p N cap) := by rw [Lib.cell_of_heap nA]; rfl
      have b5 : W1.cell? ⟨H + 1, 5, none⟩ = some (.slice p' N' cap') := by rw [Lib.cell_of_heap nB]; rfl
      clear nA nB
      go_wp2_with (go_at_call 169; refine (HF.out _).mono ?_; rintro e w' ⟨rfl, rfl⟩)
      go_ret
      exact ⟨ret_val (by rw [HR.out]; rfl), by rw [HH.out]; exact hB⟩
    by_cases k4 : K = 4
    · have HR := Lib.hid (HR4.out k4)
      subst k4
      go_enter Tryz.func102, Tryz.ntmps102
      go_upto_region 1 with (fail)
      rw [HH.out]
      generalize (w.alloc (.cells #[.int .i64 4, .int .i64 X, .float .f64 fa, .string S, .slice pp M pc, .slice p N cap] 34)).alloc (.cells #[.int .i64 4, .int .i64 X', .float .f64 fb, .string S', .slice pp' M' pc', .slice p' N' cap'] 34) = W1 at *
      have nA := (HBl.out _ (Below.refl _ _)).1; have nB := (HBl.out _ (Below.refl _ _)).2
      have a0 : W1.cell? ⟨H, 0, none⟩ = some (.int .i64 4) := by rw [Lib.cell_of_heap nA]; rfl
      have b0 : W1.cell? ⟨H + 1, 0, none⟩ = some (.int .i64 4) := by rw [Lib.cell_of_heap nB]; rfl
      have a1 : W1.cell? ⟨H, 1, none⟩ = some (.int .i64 X) := by rw [Lib.cell_of_heap nA]; rfl
      have b1 : W1.cell? ⟨H + 1, 1, none⟩ = some (.int .i64 X') := by rw [Lib.cell_of_heap nB]; rfl
      have a2 : W1.cell? ⟨H, 2, none⟩ = some (.float .f64 fa) := by rw [Lib.cell_of_heap nA]; rfl
      have b2 : W1.cell? ⟨H + 1, 2, none⟩ = some (.float .f64 fb) := by rw [Lib.cell_of_heap nB]; rfl
      have a3 : W1.cell? ⟨H, 3, none⟩ = some (.string S) := by rw [Lib.cell_of_heap nA]; rfl
      have b3 : W1.cell? ⟨H + 1, 3, none⟩ = some (.string S') := by rw [Lib.cell_of_heap nB]; rfl
      have a4 : W1.cell? ⟨H, 4, none⟩ = some (.slice pp M pc) := by rw [Lib.cell_of_heap nA]; rfl
      have b4 : W1.cell? ⟨H + 1, 4, none⟩ = some (.slice pp' M' pc') := by rw [Lib.cell_of_heap nB]; rfl
      have a5 : W1.cell? ⟨H, 5, none⟩ = some (.slice p N cap) := by rw [Lib.cell_of_heap nA]; rfl
      have b5 : W1.cell? ⟨H + 1, 5, none⟩ = some (.slice p' N' cap') := by rw [Lib.cell_of_heap nB]; rfl
      clear nA nB
      go_wp2_with (go_at_call 170; refine (HT.out _).mono ?_; rintro e w' ⟨rfl, rfl⟩)
      go_ret
      exact ⟨ret_val (by rw [HR.out]; rfl), by rw [HH.out]; exact hB⟩
    have t1 : (K == 1) = false := beq_eq_false_iff_ne.2 k1
    have t2 : (K == 2) = false := beq_eq_false_iff_ne.2 k2
    have t3 : (K == 3) = false := beq_eq_false_iff_ne.2 k3
    have t4 : (K == 4) = false := beq_eq_false_iff_ne.2 k4
    have HR := Lib.hid (HRG.out k1 k2 k3 k4)
    clear k1 k2 k3 k4 HR0 HR1 HR3 HR4 HRG
    go_enter Tryz.func102, Tryz.ntmps102
    go_upto_region 1 with (fail)
    rw [HH.out]
    generalize (w.alloc (.cells #[.int .i64 K, .int .i64 X, .float .f64 fa, .string S, .slice pp M pc, .slice p N cap] 34)).alloc (.cells #[.int .i64 K, .int .i64 X', .float .f64 fb, .string S', .slice pp' M' pc', .slice p' N' cap'] 34) = W1 at *
    have nA := (HBl.out _ (Below.refl _ _)).1; have nB := (HBl.out _ (Below.refl _ _)).2
    have a0 : W1.cell? ⟨H, 0, none⟩ = some (.int .i64 K) := by rw [Lib.cell_of_heap nA]; rfl
    have b0 : W1.cell? ⟨H + 1, 0, none⟩ = some (.int .i64 K) := by rw [Lib.cell_of_heap nB]; rfl
    have a1 : W1.cell? ⟨H, 1, none⟩ = some (.int .i64 X) := by rw [Lib.cell_of_heap nA]; rfl
    have b1 : W1.cell? ⟨H + 1, 1, none⟩ = some (.int .i64 X') := by rw [Lib.cell_of_heap nB]; rfl
    have a2 : W1.cell? ⟨H, 2, none⟩ = some (.float .f64 fa) := by rw [Lib.cell_of_heap nA]; rfl
    have b2 : W1.cell? ⟨H + 1, 2, none⟩ = some (.float .f64 fb) := by rw [Lib.cell_of_heap nB]; rfl
    have a3 : W1.cell? ⟨H, 3, none⟩ = some (.string S) := by rw [Lib.cell_of_heap nA]; rfl
    have b3 : W1.cell? ⟨H + 1, 3, none⟩ = some (.string S') := by rw [Lib.cell_of_heap nB]; rfl
    have a4 : W1.cell? ⟨H, 4, none⟩ = some (.slice pp M pc) := by rw [Lib.cell_of_heap nA]; rfl
    have b4 : W1.cell? ⟨H + 1, 4, none⟩ = some (.slice pp' M' pc') := by rw [Lib.cell_of_heap nB]; rfl
    have a5 : W1.cell? ⟨H, 5, none⟩ = some (.slice p N cap) := by rw [Lib.cell_of_heap nA]; rfl
    have b5 : W1.cell? ⟨H + 1, 5, none⟩ = some (.slice p' N' cap') := by rw [Lib.cell_of_heap nB]; rfl
    clear nA nB
    have hBB := Below.refl W1.heap.size W1
    go_upto_region 12 with (fail)
    go_cut [48] (fun v wx => ∃ b, v = .bool b ∧ IffB b (K ≠ 5 ∧ K ≠ 6) ∧ W1 = wx)
    case first =>
      by_cases k5 : K = 5
      · have n5 : (K != 5) = false := by rw [k5]; rfl
        have hx : IffB false (K ≠ 5 ∧ K ≠ 6) := ⟨(fun h => nomatch h), (fun h => absurd k5 h.1)⟩
        clear k5
        go_wp2_with fail
        go_meet
        exact ⟨_, rfl, hx, rfl⟩
      · have n5 : (K != 5) = true := by rw [bne_iff_ne]; exact k5
        by_cases k6 : K = 6
        · have n6 : (K != 6) = false := by rw [k6]; rfl
          have hx : IffB false (K ≠ 5 ∧ K ≠ 6) := ⟨(fun h => nomatch h), (fun h => absurd k6 h.2)⟩
          clear k5 k6
          go_wp2_with fail
          go_meet
          exact ⟨_, rfl, hx, rfl⟩
        · have n6 : (K != 6) = true := by rw [bne_iff_ne]; exact k6
          have hx : IffB true (K ≠ 5 ∧ K ≠ 6) := ⟨fun _ => ⟨k5, k6⟩, fun _ => rfl⟩
          clear k5 k6
          go_wp2_with fail
          go_meet
          exact ⟨_, rfl, hx, rfl⟩
    case rest =>
      obtain ⟨b, rfl, hbk, hw⟩ := hcut
      subst hw
      go_upto_if 48 with (fail)
      go_cut [5] (fun v wx => v = .int .i64 c1 ∧ W1 = wx)
      case first =>
        cases b
        · have h0 : c1 = 0 := HP0.out (by
            by_cases k5 : K = 5
            · exact .inl k5
            · by_cases k6 : K = 6
              · exact .inr k6
              · have := hbk.to.2 ⟨k5, k6⟩; cases this)
          have h0 := Lib.hid h0
          go_wp2_with fail
          go_meet
          exact ⟨by rw [h0.out], rfl⟩
        · obtain ⟨k5, k6⟩ := hbk.to.1 rfl
          have HP1 := Lib.hid (HP1.out k5 k6); have HP2 := Lib.hid (HP2.out k5 k6)
          clear k5 k6
          have HSg := Lib.hid (fun w => HS.out X X' w)
          generalize sgnI X X' = sg at *
          by_cases hsg : sg = 0
          · have hc := Lib.hid (HP2.out hsg)
            subst hsg
            go_wp2_with (first | (go_at_call 168; refine (HSg.out _).mono ?_; rintro e w' ⟨rfl, rfl⟩) | (go_at_call 170; refine (HT.out _).mono ?_; rintro e w' ⟨rfl, rfl⟩))
            go_meet
            exact ⟨by rw [hc.out], rfl⟩
          · have hc := Lib.hid (HP1.out hsg)
            have tsg : (sg == 0) = false := beq_eq_false_iff_ne.2 hsg
            clear hsg
            go_wp2_with (first | (go_at_call 168; refine (HSg.out _).mono ?_; rintro e w' ⟨rfl, rfl⟩) | (go_at_call 170; refine (HT.out _).mono ?_; rintro e w' ⟨rfl, rfl⟩))
            go_meet
            exact ⟨by rw [hc.out], rfl⟩
      case rest =>
        obtain ⟨rfl, hw⟩ := hcut
        subst hw
        clear hbk HP0 HP1 HP2
        go_upto_region 16 with (fail)
        go_cut [67] (fun v wx => ∃ b, v = .bool b ∧ IffB b (c1 = 0 ∧ K ≠ 5) ∧ W1 = wx)
        case first =>
          by_cases k1 : c1 = 0
          · have n1 : (c1 == 0) = true := by rw [k1]; rfl
            by_cases k5 : K = 5
            · have n5 : (K != 5) = false := by rw [k5]; rfl
              have hx : IffB false (c1 = 0 ∧ K ≠ 5) := ⟨(fun h => nomatch h), (fun h => absurd k5 h.2)⟩
              clear k5 k1
              go_wp2_with fail
              go_meet
              exact ⟨_, rfl, hx, rfl⟩
            · have n5 : (K != 5) = true := by rw [bne_iff_ne]; exact k5
              have hx : IffB true (c1 = 0 ∧ K ≠ 5) := ⟨fun _ => ⟨k1, k5⟩, fun _ => rfl⟩
              clear k5 k1
              go_wp2_with fail
              go_meet
              exact ⟨_, rfl, hx, rfl⟩
          · have n1 : (c1 == 0) = false := beq_eq_false_iff_ne.2 k1
            have hx : IffB false (c1 = 0 ∧ K ≠ 5) := ⟨(fun h => nomatch h), (fun h => absurd h.1 k1)⟩
            clear k1
            go_wp2_with fail
            go_meet
            exact ⟨_, rfl, hx, rfl⟩
        case rest =>
          obtain ⟨b, rfl, hbk, hw⟩ := hcut
          subst hw
          go_upto_if 67 with (fail)
          go_cut [5] (fun v wx => v = .int .i64 c2 ∧ Below W1.heap.size W1 wx)
          case first =>
            cases b
            · have h0 : c2 = c1 := HQ1.out (fun h => by have := hbk.to.2 h; cases this)
              have h0 := Lib.hid h0
              go_wp2_with fail
              go_meet
              exact ⟨by rw [h0.out], Below.refl _ _⟩
            · have h0 := Lib.hid (HQ0.out (hbk.to.1 rfl).1 (hbk.to.1 rfl).2)
              go_wp2_with (go_at_call 171; refine (HW.out _ (Below.refl _ _)).mono ?_; rintro e w2 ⟨rfl, hw2⟩)
              go_meet
              exact ⟨by rw [h0.out], hw2⟩
          case rest =>
            obtain ⟨rfl, hB2⟩ := hcut
            clear hbk HQ0 HQ1 hBB HW HT HF
            clear a0 b0 a1 b1 a2 b2 a3 b3 a4 b4 a5 b5
            go_wp2_with fail
            go_loopw [5, 6] (fun cv iv wr => ∃ (i : Nat) (c : Int), cv = .int .i64 c ∧ iv = .int .i64 (i : Int) ∧ i ≤ N ∧ i ≤ N' ∧ Hid (R = if c = 0 then ordL (its.drop i) (its'.drop i) else c) ∧ Below W1.heap.size W1 wr) (fun _ iv _ => N - (intOf iv).toNat)
            case atStart => exact ⟨0, _, rfl, rfl, Nat.zero_le _, Nat.zero_le _, by show _ = _; rw [List.drop_zero, List.drop_zero]; exact HR.out, hB2⟩
            case round =>
              clear hB2 HR
              obtain ⟨i, c, rfl, rfl, hi, hi', hR, hb⟩ := hrel
              have nA := (HBl.out _ hb).1; have nB := (HBl.out _ hb).2
              have a0 : wr.cell? ⟨H, 0, none⟩ = some (.int .i64 K) := by rw [Lib.cell_of_heap nA]; rfl
              have b0 : wr.cell? ⟨H + 1, 0, none⟩ = some (.int .i64 K) := by rw [Lib.cell_of_heap nB]; rfl
              have a1 : wr.cell? ⟨H, 1, none⟩ = some (.int .i64 X) := by rw [Lib.cell_of_heap nA]; rfl
              have b1 : wr.cell? ⟨H + 1, 1, none⟩ = some (.int .i64 X') := by rw [Lib.cell_of_heap nB]; rfl
              have a2 : wr.cell? ⟨H, 2, none⟩ = some (.float .f64 fa) := by rw [Lib.cell_of_heap nA]; rfl
              have b2 : wr.cell? ⟨H + 1, 2, none⟩ = some (.float .f64 fb) := by rw [Lib.cell_of_heap nB]; rfl
              have a3 : wr.cell? ⟨H, 3, none⟩ = some (.string S) := by rw [Lib.cell_of_heap nA]; rfl
              have b3 : wr.cell? ⟨H + 1, 3, none⟩ = some (.string S') := by rw [Lib.cell_of_heap nB]; rfl
              have a4 : wr.cell? ⟨H, 4, none⟩ = some (.slice pp M pc) := by rw [Lib.cell_of_heap nA]; rfl
              have b4 : wr.cell? ⟨H + 1, 4, none⟩ = some (.slice pp' M' pc') := by rw [Lib.cell_of_heap nB]; rfl
              have a5 : wr.cell? ⟨H, 5, none⟩ = some (.slice p N cap) := by rw [Lib.cell_of_heap nA]; rfl
              have b5 : wr.cell? ⟨H + 1, 5, none⟩ = some (.slice p' N' cap') := by rw [Lib.cell_of_heap nB]; rfl
              clear nA nB
              by_cases hc : c = 0
              · subst hc
                replace hR : Hid (R = ordL (its.drop i) (its'.drop i)) := by show _ = _; rw [hR.out, if_pos rfl]
                by_cases hlt : i < N
                · have t0 : decide ((i : Int) < (N : Int)) = true := by simp; omega
                  by_cases hlm : i < N'
                  · have tm : decide ((i : Int) < (N' : Int)) = true := by simp; omega
                    obtain ⟨gA, offA, rfl, dsA, hvaA, x0, x1, x2, x3, x4, x5⟩ := HIA.out i hlt _ hb
                    obtain ⟨gB, offB, rfl, dsB, hvaB, y0, y1, y2, y3, y4, y5⟩ := HIB.out i hlm _ hb
                    obtain ⟨q1, r1, s1, v1, rfl⟩ := hvaA.sixS
                    obtain ⟨q2, r2, s2, v2, rfl⟩ := hvaB.sixS
                    simp at x0 x1 x2 x3 x4 x5 y0 y1 y2 y3 y4 y5
                    have i1 : (0 : Int) ≤ (i : Int) := by omega
                    have i2 : (i : Int) < (N : Int) := by omega
                    have i3 : (i : Int) < (N' : Int) := by omega
                    have HQ := Lib.hid (IH.out d2 _ _ _ _ wr.drew (hvaA.kept ((Below.refl wr.heap.size wr).drew)) (hvaB.kept ((Below.refl wr.heap.size wr).drew)))
                    have HSt := Lib.hid (HStep.out i hlt hlm)
                    clear hvaA hvaB
                    generalize ordV (its.getD i noVT) (its'.getD i noVT) = c' at *
                    go_wp2_with fail
                    refine wp_still_tailG 10 (by kernel_rfl) (by kernel_rfl) ?_
                    simp only [List.take_succ_cons, List.take_zero, List.drop_succ_cons, List.drop_zero]
                    iterate 10 (refine StillG.step (fun K hK => ?_); go_simp; refine hK _ ?_; clear hK K)
                    refine StillG.nil ?_
                    go_wp2_with fail
                    refine (HQ.out).mono ?_; rintro e w3 ⟨rfl, hb3⟩
                    go_wp2_with fail
                    go_roundw
                    case rel => exact ⟨i + 1, c', rfl, by go_num, by omega, by omega, by show _ = _; rw [hR.out, HSt.out], hb.trans ((undrew hb3).mono hb.size)⟩
                    case measure => simp [intOf]; omega
                  · have tm : decide ((i : Int) < (N' : Int)) = false := by simp; omega
                    have HE := Lib.hid (HEnd.out i hi hi' (.inr (by omega)))
                    go_wp2_with (go_at_call 168; refine (HS.out _ _ _).mono ?_; rintro e w' ⟨rfl, rfl⟩)
                    go_ret
                    exact ⟨ret_val (by rw [hR.out, HE.out]; rfl), by rw [HH.out]; exact hB.trans (hb.mono (by have := hB.size; rw [HH.out] at this; exact this))⟩
                · have t0 : decide ((i : Int) < (N : Int)) = false := by simp; omega
                  have HE := Lib.hid (HEnd.out i hi hi' (.inl (by omega)))
                  go_wp2_with (go_at_call 168; refine (HS.out _ _ _).mono ?_; rintro e w' ⟨rfl, rfl⟩)
                  go_ret
                  exact ⟨ret_val (by rw [hR.out, HE.out]; rfl), by rw [HH.out]; exact hB.trans (hb.mono (by have := hB.size; rw [HH.out] at this; exact this))⟩
              · replace hR : Hid (R = c) := by show _ = _; rw [hR.out, if_neg hc]
                have tc : (c == 0) = false := beq_eq_false_iff_ne.2 hc
                clear hc
                by_cases hlt : i < N
                · have t0 : decide ((i : Int) < (N : Int)) = true := by simp; omega
                  by_cases hlm : i < N'
                  · have tm : decide ((i : Int) < (N' : Int)) = true := by simp; omega
                    go_wp2_with fail
                    go_ret
                    exact ⟨ret_val (by rw [hR.out]; rfl), by rw [HH.out]; exact hB.trans (hb.mono (by have := hB.size; rw [HH.out] at this; exact this))⟩
                  · have tm : decide ((i : Int) < (N' : Int)) = false := by simp; omega
                    go_wp2_with fail
                    go_ret
                    exact ⟨ret_val (by rw [hR.out]; rfl), by rw [HH.out]; exact hB.trans (hb.mono (by have := hB.size; rw [HH.out] at this; exact this))⟩
                · have t0 : decide ((i : Int) < (N : Int)) = false := by simp; omega
                  go_wp2_with fail
                  go_ret
                  exact ⟨ret_val (by rw [hR.out]; rfl), by rw [HH.out]; exact hB.trans (hb.mono (by have := hB.size; rw [HH.out] at this; exact this))⟩
  · have t0 : (K != K') = true := by rw [bne_iff_ne]; exact hk
    have HR := Lib.hid (HR0.out hk)
    clear hk
    go_enter Tryz.func102, Tryz.ntmps102
    go_upto_region 1 with (fail)
    rw [HH.out]
    generalize (w.alloc (.cells #[.int .i64 K, .int .i64 X, .float .f64 fa, .string S, .slice pp M pc, .slice p N cap] 34)).alloc (.cells #[.int .i64 K', .int .i64 X', .float .f64 fb, .string S', .slice pp' M' pc', .slice p' N' cap'] 34) = W1 at *
    have nA := (HBl.out _ (Below.refl _ _)).1; have nB := (HBl.out _ (Below.refl _ _)).2
    have a0 : W1.cell? ⟨H, 0, none⟩ = some (.int .i64 K) := by rw [Lib.cell_of_heap nA]; rfl
    have b0 : W1.cell? ⟨H + 1, 0, none⟩ = some (.int .i64 K') := by rw [Lib.cell_of_heap nB]; rfl
    have a1 : W1.cell? ⟨H, 1, none⟩ = some (.int .i64 X) := by rw [Lib.cell_of_heap nA]; rfl
    have b1 : W1.cell? ⟨H + 1, 1, none⟩ = some (.int .i64 X') := by rw [Lib.cell_of_heap nB]; rfl
    have a2 : W1.cell? ⟨H, 2, none⟩ = some (.float .f64 fa) := by rw [Lib.cell_of_heap nA]; rfl
    have b2 : W1.cell? ⟨H + 1, 2, none⟩ = some (.float .f64 fb) := by rw [Lib.cell_of_heap nB]; rfl
    have a3 : W1.cell? ⟨H, 3, none⟩ = some (.string S) := by rw [Lib.cell_of_heap nA]; rfl
    have b3 : W1.cell? ⟨H + 1, 3, none⟩ = some (.string S') := by rw [Lib.cell_of_heap nB]; rfl
    have a4 : W1.cell? ⟨H, 4, none⟩ = some (.slice pp M pc) := by rw [Lib.cell_of_heap nA]; rfl
    have b4 : W1.cell? ⟨H + 1, 4, none⟩ = some (.slice pp' M' pc') := by rw [Lib.cell_of_heap nB]; rfl
    have a5 : W1.cell? ⟨H, 5, none⟩ = some (.slice p N cap) := by rw [Lib.cell_of_heap nA]; rfl
    have b5 : W1.cell? ⟨H + 1, 5, none⟩ = some (.slice p' N' cap') := by rw [Lib.cell_of_heap nB]; rfl
    clear nA nB
    go_wp2_with (go_at_call 168; refine (HS.out _ _ _).mono ?_; rintro e w' ⟨rfl, rfl⟩)
    go_ret
    exact ⟨ret_val (by rw [HR.out]; rfl), by rw [HH.out]; exact hB⟩
theorem rOrder_any : ∀ (d d2 : Nat) (a b : VT) (ca cb : Array Value) (w : World), ValAt w d a ca → ValAt w d2 b cb → Calls Tryz.prog 102 #[.agg ca, .agg cb] w (Gives (.int .i64 (ordV a b)) w)
  | 0, _, _, _, _, _, _, ha, _ => ha.elim
  | _ + 1, 0, _, _, _, _, _, _, hb => hb.elim
  | d + 1, d2 + 1, a, b, ca, cb, w, ha, hb => rOrder_step d d2 a b ca cb w (fun d2 a b ca cb w => rOrder_any d d2 a b ca cb w) ha hb
end
section
open Go.RowKit
/-- are two values the same? -/
def sameV (a b : VT) : Bool := decide (ordV a b = 0)
set_option maxRecDepth 100000 in
set_option maxHeartbeats 4000000 in
theorem rSame_any (d d2 : Nat) (a b : VT) (ca cb : Array Value) (w : World) (ha : ValAt w d a ca) (hb : ValAt w d2 b cb) : Calls Tryz.prog 64 #[.agg ca, .agg cb] w (Gives (.bool (sameV a b)) w) := by
  obtain ⟨pp, pc, p, cap, rfl⟩ := ha.sixS
  obtain ⟨pp', pc', p', cap', rfl⟩ := hb.sixS
  have hB1 : Below w.heap.size w (w.alloc (.cells #[.int .i64 a.kind, .int .i64 a.num, .float .f64 a.flt, .string ⟨a.str.toArray⟩, .slice pp a.names.length pc, .slice p a.items.length cap] 34)) := (Below.refl _ _).alloc (Nat.le_refl _) _
  have hB := hB1.alloc (o := .cells #[.int .i64 b.kind, .int .i64 b.num, .float .f64 b.flt, .string ⟨b.str.toArray⟩, .slice pp' b.names.length pc', .slice p' b.items.length cap'] 34) hB1.size
  have HC := Lib.hid (rOrder_any d d2 a b _ _ _ (ha.kept hB) (hb.kept hB))
  have hS := sameV.eq_def a b
  clear ha hb hB1
  generalize (⟨a.str.toArray⟩ : ByteArray) = S at *
  generalize (⟨b.str.toArray⟩ : ByteArray) = S' at *
  generalize ordV a b = c at *
  generalize sameV a b = R at *
  by_cases hc : c = 0
  · have t0 : (c == 0) = true := by rw [hc]; rfl
    rw [decide_eq_true hc] at hS
    have HS := Lib.hid hS
    clear hc hS
    go_enter Tryz.func64, Tryz.ntmps64
    go_wp2_with fail
    refine (HC.out).mono ?_; rintro e w2 ⟨rfl, hb2⟩
    go_wp2_with fail
    go_ret
    exact ⟨ret_val (by rw [HS.out]; rfl), hB.trans (hb2.mono hB.size)⟩
  · have t0 : (c == 0) = false := beq_eq_false_iff_ne.2 hc
    rw [decide_eq_false hc] at hS
    have HS := Lib.hid hS
    clear hc hS
    go_enter Tryz.func64, Tryz.ntmps64
    go_wp2_with fail
    refine (HC.out).mono ?_; rintro e w2 ⟨rfl, hb2⟩
    go_wp2_with fail
    go_ret
    exact ⟨ret_val (by rw [HS.out]; rfl), hB.trans (hb2.mono hB.size)⟩
end
end Go.Proofs.YthponidjednfbaaGreatDoor
