/-
  U1, W2, Y3, Y4, Q3, Y5 in one text.
-/
import Derived.Below
import Derived.BigQuiet
import Derived.Deep.Cut
import Derived.Deep.QuietTactic
import Derived.Handy
import Derived.IntWalk
import Derived.Laws.Bits64b
import Derived.Laws.FloatBits
import Derived.Lib.AtoiAll
import Derived.Lib.Builder
import Derived.Lib.Bytes
import Derived.Lib.ConvBytes
import Derived.Lib.FrozenHead2
import Derived.Lib.Hide
import Derived.Lib.IndexMore
import Derived.Lib.ItoaNum
import Derived.Lib.MinMax
import Derived.Lib.OthersKept
import Derived.Lib.ParseIntB
import Derived.Lib.UnsafeStr
import Derived.LoopTactic
import Derived.OneCell
import Derived.OwnWalk
import Derived.RegionTactic
import Derived.Tactics
import Derived.Tactics2
import Derived.Test.YtnaamiecljinnaaGreatChecked
import Derived.WalkKit
import Derived.WalkLawsBesides
import Derived.WalkSpells
import Ieee.Arith
import Derived.Test.YtnaamiecljinnaaGreatS00
import Derived.Test.YtnaamiecljinnaaGreatS02
namespace Go.Proofs.YtnaamiecljinnaaGreat
section
open Go.RowKit
theorem rsign_any (n m : Int) (w : World) : Calls Tryz.prog 81 #[.int .i64 n, .int .i64 m] w fun e w' => e = .returned (.int .i64 (sgnI n m)) ∧ w = w' := by
  have hs := sgnI.eq_def n m
  by_cases h : n < m
  · have t1 : decide (n < m) = true := decide_eq_true h
    rw [if_pos h] at hs
    have HS := Lib.hid hs; clear hs
    go_enter Tryz.func81, Tryz.ntmps81
    go_wp2_with fail
    go_ret
    exact ⟨ret_val (by rw [HS.out]; rfl), rfl⟩
  · have t1 : decide (n < m) = false := decide_eq_false h
    rw [if_neg h] at hs
    by_cases h2 : m < n
    · have t2 : decide (m < n) = true := decide_eq_true h2
      rw [if_pos h2] at hs
      have HS := Lib.hid hs; clear hs
      go_enter Tryz.func81, Tryz.ntmps81
      go_wp2_with fail
      go_ret
      exact ⟨ret_val (by rw [HS.out]; rfl), rfl⟩
    · have t2 : decide (m < n) = false := decide_eq_false h2
      rw [if_neg h2] at hs
      have HS := Lib.hid hs; clear hs
      go_enter Tryz.func81, Tryz.ntmps81
      go_wp2_with fail
      go_ret
      exact ⟨ret_val (by rw [HS.out]; rfl), rfl⟩
theorem rtext_ord (s t : ByteArray) (w : World) : Calls Tryz.prog 83 #[.string s, .string t] w fun e w' => e = .returned (.int .i64 (txtO s.toList t.toList)) ∧ w = w' := by
  have hs := txtO.eq_def s.toList t.toList
  cases t1 : Op.bytesLess s.toList t.toList
  · rw [t1, if_neg (by decide)] at hs
    by_cases h2 : s.toList = t.toList
    · rw [if_pos h2] at hs
      have t2 : (s.toList == t.toList) = true := beq_iff_eq.2 h2
      have HS := Lib.hid hs; clear hs h2
      go_enter Tryz.func83, Tryz.ntmps83
      go_wp2_with fail
      go_ret
      exact ⟨ret_val (by rw [HS.out]; rfl), rfl⟩
    · rw [if_neg h2] at hs
      have t2 : (s.toList == t.toList) = false := beq_eq_false_iff_ne.2 h2
      have HS := Lib.hid hs; clear hs h2
      go_enter Tryz.func83, Tryz.ntmps83
      go_wp2_with fail
      go_ret
      exact ⟨ret_val (by rw [HS.out]; rfl), rfl⟩
  · rw [t1, if_pos rfl] at hs
    have HS := Lib.hid hs; clear hs
    go_enter Tryz.func83, Tryz.ntmps83
    go_wp2_with fail
    go_ret
    exact ⟨ret_val (by rw [HS.out]; rfl), rfl⟩
theorem rtext_ords (s t : List UInt8) (w : World) : Calls Tryz.prog 83 #[.string ⟨s.toArray⟩, .string ⟨t.toArray⟩] w fun e w' => e = .returned (.int .i64 (txtO s t)) ∧ w = w' := by
  have := rtext_ord ⟨s.toArray⟩ ⟨t.toArray⟩ w
  rwa [ByteArray.toList_eq, ByteArray.toList_eq] at this
theorem Strs.row {w : World} {l : List (List UInt8)} {v : Value} (h : Strs w l v) : ∃ p c, v = .slice p l.length c ∧ l.length ≤ 140737488355328 ∧ ∀ i, i < l.length → ∃ g off, p = some ⟨g, off, none⟩ ∧ w.cell? ⟨g, off + i, none⟩ = some (.string ⟨(l.getD i []).toArray⟩) := by
  obtain ⟨hl, _, h | ⟨g, off, cap, h3, h4, h5⟩⟩ := h
  · obtain ⟨rfl, p, c, rfl⟩ := h
    exact ⟨p, c, rfl, hl, fun i hi => by simp at hi⟩
  · exact ⟨_, _, h3, hl, fun i hi => ⟨g, off, rfl, h5 i hi⟩⟩
set_option maxRecDepth 100000 in
set_option maxHeartbeats 2000000 in
theorem rrows_any (l m : List (List UInt8)) (u v : Value) (w : World) (hu : Strs w l u) (hv : Strs w m v) : Calls Tryz.prog 84 #[u, v] w (Gives (.int .i64 (rowsO l m)) w) := by
  obtain ⟨p, c, rfl, hln, hcu⟩ := hu.row
  obtain ⟨q, d, rfl, hlm, hcv⟩ := hv.row
  have HT := Lib.hid (fun s t w => rtext_ords s t w)
  have HS := Lib.hid (fun n m w => rsign_any n m w)
  have HCu := Lib.hid hcu; have HCv := Lib.hid hcv
  have HStep := Lib.hid (fun i (h1 : i < l.length) h2 => rowsO_step (a := l) (b := m) (i := i) h1 h2)
  have HEnd := Lib.hid (fun i (h1 : i ≤ l.length) h2 h3 => rowsO_end (a := l) (b := m) (i := i) h1 h2 h3)
  clear hu hv hcu hcv
  generalize l.length = N at *
  generalize m.length = M at *
  have h0 : Hid (rowsO l m = rowsO (l.drop 0) (m.drop 0)) := by show _ = _; rw [List.drop_zero, List.drop_zero]
  generalize rowsO l m = R at *
  go_enter Tryz.func84, Tryz.ntmps84
  go_wp2_with fail
  go_loopw [5] (fun iv wr => ∃ i : Nat, iv = .int .i64 (i : Int) ∧ i ≤ N ∧ i ≤ M ∧ Hid (R = rowsO (l.drop i) (m.drop i)) ∧ ∃ k, wr = w.drewN k) (fun iv _ => N - (intOf iv).toNat)
  case atStart => exact ⟨0, rfl, Nat.zero_le _, Nat.zero_le _, h0, 0, rfl⟩
  case round =>
    clear h0
    obtain ⟨i, rfl, hi, hj, hR, k, rfl⟩ := hrel
    by_cases hlt : i < N
    · have t0 : decide ((i : Int) < (N : Int)) = true := by simp; omega
      by_cases hlm : i < M
      · have t1 : decide ((i : Int) < (M : Int)) = true := by simp; omega
        obtain ⟨g, off, rfl, c1⟩ := HCu.out i hlt
        obtain ⟨g', off', rfl, c2⟩ := HCv.out i hlm
        replace c1 : (w.drewN k).cell? ⟨g, off + i, none⟩ = _ := c1
        replace c2 : (w.drewN k).cell? ⟨g', off' + i, none⟩ = _ := c2
        have hst := HStep.out i hlt hlm
        have b1 : (0 : Int) ≤ (i : Int) := by omega
        have b2 : (i : Int) < (N : Int) := by omega
        have b3 : (i : Int) < (M : Int) := by omega
        have HT2 := Lib.hid (fun w => HT.out (l.getD i []) (m.getD i []) w)
        generalize txtO (l.getD i []) (m.getD i []) = T at *
        generalize (⟨(l.getD i []).toArray⟩ : ByteArray) = s at *
        generalize (⟨(m.getD i []).toArray⟩ : ByteArray) = s' at *
        by_cases hT : T = 0
        · rw [if_pos hT] at hst
          subst hT
          have HST := Lib.hid hst; clear hst
          generalize hW : w.drewN k = W at *
          have HW := Lib.hid hW; clear hW
          go_wp2_with fail
          go_quiet (refine Calls.quiet_of_same ((HT2.out _).mono fun _ _ h => ⟨h.1, h.2.symm⟩))
          go_wp2_with fail
          go_roundw
          case rel => exact ⟨i + 1, by go_num, by omega, by omega, by show _ = _; rw [hR.out, HST.out], _, by rw [← HW.out, World.drewN_drewN]⟩
          case measure => simp [intOf]; omega
        · rw [if_neg hT] at hst
          have t2 : (T != 0) = true := by rw [bne_iff_ne]; exact hT
          have HST := Lib.hid hst; clear hst hT
          generalize hW : w.drewN k = W at *
          have HW := Lib.hid hW; clear hW
          go_wp2_with fail
          go_quiet (refine Calls.quiet_of_same ((HT2.out _).mono fun _ _ h => ⟨h.1, h.2.symm⟩))
          go_wp2_with fail
          go_ret
          exact ⟨ret_val (by rw [hR.out, HST.out]; rfl), by rw [← HW.out]; exact ⟨rfl, rfl, rfl, Nat.le_refl _, fun _ _ => rfl⟩⟩
      · have t1 : decide ((i : Int) < (M : Int)) = false := by simp; omega
        have HE := Lib.hid (HEnd.out i hi hj (.inr (by omega)))
        go_wp2_with fail
        refine (HS.out _ _ _).mono ?_; rintro e w2 ⟨rfl, rfl⟩
        go_wp2_with fail
        go_ret
        exact ⟨ret_val (by rw [hR.out, HE.out]; rfl), ⟨rfl, rfl, rfl, Nat.le_refl _, fun _ _ => rfl⟩⟩
    · have t0 : decide ((i : Int) < (N : Int)) = false := by simp; omega
      have HE := Lib.hid (HEnd.out i hi hj (.inl (by omega)))
      go_wp2_with fail
      refine (HS.out _ _ _).mono ?_; rintro e w2 ⟨rfl, rfl⟩
      go_wp2_with fail
      go_ret
      exact ⟨ret_val (by rw [hR.out, HE.out]; rfl), ⟨rfl, rfl, rfl, Nat.le_refl _, fun _ _ => rfl⟩⟩
end
section
open Go.RowKit
set_option maxHeartbeats 400000 in
theorem rank_any (b : Nat) (hb : F64 b) (w : World) : Calls Tryz.prog 176 #[.float .f64 b] w fun e w' => e = .returned (.tuple #[.int .i64 (rank1 b), .int .i64 (rank2 b)]) ∧ w = w' := by
  have h1 := ord_ne b b
  rw [feq_self] at h1
  have hz : Fl.feq b 0 = (!Fl.isNaN b && isZ b) := by
    unfold Fl.feq Fl.K isZ
    cases Fl.isNaN b <;> simp [show Fl.isNaN 0 = false from by decide, show Fl.rg 0 = 0 from by decide, show Fl.ng 0 = false from by decide]
    cases Fl.ng b <;> simp
  have h2 := ord_eq b 0
  rw [hz] at h2
  clear hz
  cases hn : Fl.isNaN b
  · rw [hn] at h1 h2
    cases hz : isZ b
    · rw [hz] at h2
      have H1 := Lib.hid (show rank1 b = 0 from by simp [rank1, hn])
      have H2 := Lib.hid (show rank2 b = 0 from by simp [rank2, hn, hz])
      go_enter Tryz.func176, Tryz.ntmps176
      go_wp2
      go_ret2
      exact ⟨ret_val (by rw [H1.out, H2.out]; rfl), rfl⟩
    · have hr : Fl.rg b = 0 := by simpa [isZ] using hz
      rcases ng_cases hb with ⟨h, he⟩ | ⟨h, he⟩
      · rw [hr] at he
        have H1 := Lib.hid (show rank1 b = 0 from by simp [rank1, hn])
        have H2 := Lib.hid (show rank2 b = -1 from by simp [rank2, hn, hz, h])
        clear hn hz h hr h1 h2 hb
        subst he
        have hq := fun w => run_float_arith (P := Tryz.prog) w .quo 54 .f64 4607182418800017408 9223372036854775808 18442240474082181120 (by kernel_rfl)
        have e1 : FloatKind.f64.format.order 9223372036854775808 9223372036854775808 = some .eq := by kernel_rfl
        have e2 : FloatKind.f64.format.order 9223372036854775808 0 = some .eq := by kernel_rfl
        have e3 : FloatKind.f64.format.order 18442240474082181120 0 = some .lt := by kernel_rfl
        go_enter Tryz.func176, Tryz.ntmps176
        go_wp2
        go_ret2
        exact ⟨ret_val (by rw [H1.out, H2.out]; rfl), rfl⟩
      · rw [hr] at he
        have H1 := Lib.hid (show rank1 b = 0 from by simp [rank1, hn])
        have H2 := Lib.hid (show rank2 b = 0 from by simp [rank2, hn, hz, h])
        clear hn hz h hr h1 h2 hb
        subst he
        have hq := fun w => run_float_arith (P := Tryz.prog) w .quo 54 .f64 4607182418800017408 0 9218868437227405312 (by kernel_rfl)
        have e1 : FloatKind.f64.format.order 0 0 = some .eq := by kernel_rfl
        have e3 : FloatKind.f64.format.order 9218868437227405312 0 = some .gt := by kernel_rfl
        go_enter Tryz.func176, Tryz.ntmps176
        go_wp2
        go_ret2
        exact ⟨ret_val (by rw [H1.out, H2.out]; rfl), rfl⟩
  · rw [hn] at h1
    have H1 := Lib.hid (show rank1 b = 1 from by simp [rank1, hn])
    have H2 := Lib.hid (show rank2 b = 0 from by simp [rank2, hn])
    go_enter Tryz.func176, Tryz.ntmps176
    go_wp2
    go_ret2
    exact ⟨ret_val (by rw [H1.out, H2.out]; rfl), rfl⟩
def ordO (r1a r1b r2a r2b : Int) (o : Option Ordering) : Int :=
  if r1a ≠ r1b then r1a - r1b else if r1a = 1 then 0
  else if (o == some .lt) || ((o == some .eq) && decide (r2a < r2b)) then -1
  else if (o == some .gt) || ((o == some .eq) && decide (r2b < r2a)) then 1 else 0
theorem ordB_O (a b : Nat) : ordB a b = ordO (rank1 a) (rank1 b) (rank2 a) (rank2 b) (FloatKind.f64.format.order a b) := by
  rw [← ordF_eq]; unfold ordF ordO
  have h3 : Fl.feq a b = (FloatKind.f64.format.order a b == some .eq) := (ord_eq a b).symm
  rw [ord_lt, ord_gt, ← h3]
theorem rank1_or (b : Nat) : rank1 b = 0 ∨ rank1 b = 1 := by unfold rank1; split <;> simp
theorem rank2_or (b : Nat) : rank2 b = 0 ∨ rank2 b = -1 := by unfold rank2; split <;> (try split) <;> simp
set_option maxHeartbeats 1600000 in
theorem order_any (a b : Nat) (ha : F64 a) (hb : F64 b) (w : World) : Calls Tryz.prog 154 #[.float .f64 a, .float .f64 b] w fun e w' => e = .returned (.int .i64 (ordB a b)) ∧ w = w' := by
  have HK := Lib.hid (ordB_O a b)
  rcases rank1_or a with ea | ea <;> rcases rank1_or b with eb | eb
  case inl.inl =>
    rcases rank2_or a with fa | fa <;> rcases rank2_or b with fb | fb <;> rcases ho : FloatKind.f64.format.order a b with _ | o
    all_goals (try cases o)
    all_goals
      rw [ea, eb, fa, fb, ho] at HK
      go_enter Tryz.func154, Tryz.ntmps154
      go_wp2_with fail
      refine (rank_any _ ha _).mono ?_; rintro e w' ⟨rfl, rfl⟩
      go_wp2_with fail
      refine (rank_any _ hb _).mono ?_; rintro e w' ⟨rfl, rfl⟩
      go_wp2_with fail
      go_ret
      exact ⟨ret_val (by rw [HK.out]; rfl), rfl⟩
  all_goals
    have HV : Hid (ordB a b = rank1 a - rank1 b) := by unfold Hid; rw [HK.out, ea, eb]; unfold ordO; split <;> simp_all
    rw [ea, eb] at HV
    go_enter Tryz.func154, Tryz.ntmps154
    go_wp2_with fail
    refine (rank_any _ ha _).mono ?_; rintro e w' ⟨rfl, rfl⟩
    go_wp2_with fail
    refine (rank_any _ hb _).mono ?_; rintro e w' ⟨rfl, rfl⟩
    go_wp2_with fail
    go_ret
    exact ⟨ret_val (by rw [HV.out]; rfl), rfl⟩
end
section
open Go.RowKit
/-- a value behind a pointer -/
def PtrTo (w : World) (d : Nat) (v : VT) (g o : Nat) : Prop := g < w.heap.size ∧ ∃ cs, ValAt w d v cs ∧ ∀ j, j < 6 → w.cell? ⟨g, o + j, none⟩ = cs[j]?
theorem PtrTo.kept {w w' : World} {d : Nat} {v : VT} {g o : Nat} (h : PtrTo w d v g o) (hb : Below w.heap.size w w') : PtrTo w' d v g o := by
  obtain ⟨hg, cs, h1, h2⟩ := h
  exact ⟨Nat.lt_of_lt_of_le hg hb.size, cs, h1.kept hb, fun j hj => (hb.cell (p := ⟨g, o + j, none⟩) hg).trans (h2 j hj)⟩
/-- its six cells, and what its items are -/
theorem PtrTo.open {w : World} {d : Nat} {v : VT} {g o : Nat} (h : PtrTo w (d + 1) v g o) : ∃ pn p cap, g < w.heap.size ∧ w.cell? ⟨g, o, none⟩ = some (.int .i64 v.kind) ∧ w.cell? ⟨g, o + 1, none⟩ = some (.int .i64 v.num) ∧ w.cell? ⟨g, o + 2, none⟩ = some (.float .f64 v.flt) ∧
    w.cell? ⟨g, o + 3, none⟩ = some (.string ⟨v.str.toArray⟩) ∧ w.cell? ⟨g, o + 4, none⟩ = some pn ∧ w.cell? ⟨g, o + 5, none⟩ = some (.slice p v.items.length cap) ∧ F64 v.flt ∧ v.str.length ≤ 140737488355328 ∧ Strs w v.names pn ∧ v.items.length ≤ 140737488355328 ∧
    (∀ i, i < v.items.length → ∃ g' o', p = some ⟨g', o', none⟩ ∧ g' < w.heap.size ∧ PtrTo w d (v.items.getD i noVT) g' (o' + i * 6)) := by
  obtain ⟨hg, cs, ⟨pn, pi, rfl, _, _, h4, h5, h6, h7, h8⟩, hc⟩ := h
  have x0 := hc 0 (by omega); have x1 := hc 1 (by omega); have x2 := hc 2 (by omega); have x3 := hc 3 (by omega); have x4 := hc 4 (by omega); have x5 := hc 5 (by omega)
  rcases h8 with ⟨h8, p, c, rfl⟩ | ⟨g', off, cap, rfl, hg', hi⟩
  · refine ⟨pn, p, c, hg, x0, x1, x2, x3, x4, by rw [h8]; exact x5, h4, h5, h6, h7, fun i hi => ?_⟩
    rw [h8] at hi; simp at hi
  · refine ⟨pn, _, cap, hg, x0, x1, x2, x3, x4, x5, h4, h5, h6, h7, fun i h => ?_⟩
    obtain ⟨ds, h9, h10⟩ := hi i h
    exact ⟨g', off, rfl, hg', hg', ds, h9, h10⟩
theorem Strs.lenOf {w : World} {l : List (List UInt8)} {v : Value} (h : Strs w l v) : ∃ p cap, v = .slice p l.length cap := by
  rcases h.2.2 with ⟨rfl, p, c, hp⟩ | ⟨g, off, cap, hp, _⟩
  · exact ⟨p, c, hp⟩
  · exact ⟨_, cap, hp⟩
set_option maxRecDepth 100000 in
set_option maxHeartbeats 2000000 in
theorem counted_any : ∀ (d : Nat) (v : VT) (g o : Nat) (n : Nat) (w : World), PtrTo w d v g o → n < 500 →
    Calls Tryz.prog 159 #[.pointer (some ⟨g, o, none⟩), .int .i64 (n : Int)] w fun e w' => e = .returned (.int .i64 (countV v n : Nat)) ∧ w = w'
  | 0, _, _, _, _, _, h, _ => by obtain ⟨_, _, h, _⟩ := h; exact h.elim
  | d + 1, v, g, o, n, w, h, hn => by
    have ih := Lib.hid (counted_any d)
    have hcv : countV v n = countL v.items (n + 1) := by cases v; rw [countV]; rfl
    have HCV := Lib.hid hcv
    clear hcv
    obtain ⟨pn, p, cap, hg, x0, x1, x2, x3, x4, x5, h4, h5, h6, h7, h9⟩ := h.open
    have H9 := Lib.hid h9
    clear h9 h x0 x1 x2 x3 x4 h4 h5 h6
    generalize v.items = its at *
    generalize hN : its.length = N at *
    have HN := Lib.hid hN
    clear hN
    go_enter Tryz.func159, Tryz.ntmps159
    go_wp2_with fail
    go_loop [1, 13] (fun mv iv => ∃ i m : Nat, i ≤ N ∧ m ≤ 500 ∧ mv = .int .i64 m ∧ iv = .int .i64 i ∧ Hid (countV v n = countL (its.drop i) m)) (fun _ iv => N - (intOf iv).toNat)
    case atStart => exact ⟨0, n + 1, by omega, by omega, by go_num, rfl, by show _ = _; rw [List.drop_zero, HCV.out]⟩
    case round =>
      obtain ⟨i, m, hi, hm, rfl, rfl, hcn⟩ := hrel
      by_cases hlt : i < N
      · have t0 : decide ((i : Int) < (N : Int)) = true := by simp; omega
        by_cases h5 : m < 500
        · have t1 : decide ((500 : Int) ≤ (m : Int)) = false := by simp; omega
          obtain ⟨g', o', rfl, hg', hv⟩ := H9.out i hlt
          have HC := Lib.hid (ih.out _ _ _ m w hv h5)
          have hdn := countL_drop (l := its) (i := i) (m := m) (by rw [HN.out]; exact hlt) h5
          have HD := Lib.hid hdn
          have hle := countV_le (its.getD i noVT) m h5
          generalize its.getD i noVT = k at *
          generalize countV k m = m2 at *
          have b1 : (0 : Int) ≤ (i : Int) := by omega
          have b2 : (i : Int) < (N : Int) := by omega
          clear hdn hv
          go_wp2_with fail
          refine (HC.out).mono ?_; rintro e w5 ⟨rfl, rfl⟩
          go_wp2_with fail
          go_round
          case rel => exact ⟨i + 1, m2, by omega, hle.1, rfl, by go_num, by show _ = _; rw [hcn.out, HD.out]⟩
          case measure => simp [intOf]; omega
        · have t1 : decide ((500 : Int) ≤ (m : Int)) = true := by simp; omega
          have HF := Lib.hid (countL_stop (l := its.drop i) (m := m) (by omega))
          go_wp2_with fail
          go_ret
          exact ⟨ret_val (by rw [hcn.out, HF.out]; rfl), rfl⟩
      · have t0 : decide ((i : Int) < (N : Int)) = false := by simp; omega
        have HF := Lib.hid (countL_end (l := its) (i := i) (m := m) (by rw [HN.out]; omega))
        go_wp2_with fail
        go_ret
        exact ⟨ret_val (by rw [hcn.out, HF.out]; rfl), rfl⟩
end
section
open Go.RowKit
theorem ValAt.box {w : World} {d : Nat} {v : VT} {cs : Array Value} (h : ValAt w d v cs) : PtrTo (w.alloc (.cells cs 57)) d v w.heap.size 0 := by
  refine ⟨by simp, cs, h.kept ((Below.refl _ _).alloc (Nat.le_refl _) _), fun j hj => ?_⟩
  rw [Nat.zero_add, Lib.cell_of_heap (heap_alloc_new w _)]
theorem ValAt.six {w : World} {d : Nat} {v : VT} {cs : Array Value} (h : ValAt w d v cs) : ∃ pn p cap, cs = #[.int .i64 v.kind, .int .i64 v.num, .float .f64 v.flt, .string ⟨v.str.toArray⟩, pn, .slice p v.items.length cap] := by
  cases d with
  | zero => exact h.elim
  | succ d =>
    obtain ⟨pn, pi, rfl, _, _, _, _, _, _, h8⟩ := h
    rcases h8 with ⟨h8, p, c, rfl⟩ | ⟨g, off, cap, rfl, _⟩
    · exact ⟨pn, p, c, by rw [h8]; rfl⟩
    · exact ⟨pn, _, cap, rfl⟩
set_option maxRecDepth 100000 in
set_option maxHeartbeats 1000000 in
theorem vparts_any (d : Nat) (v : VT) (cs : Array Value) (w : World) (h : ValAt w d v cs) : Calls Tryz.prog 136 #[.agg cs] w (Gives (.int .i64 (countV v 0 : Nat)) w) := by
  have hb := h.box
  have HC := Lib.hid (counted_any d v _ 0 0 _ hb (by omega))
  have hB : Below w.heap.size w (w.alloc (.cells cs 57)) := (Below.refl _ _).alloc (Nat.le_refl _) _
  clear hb
  go_enter Tryz.func136, Tryz.ntmps136
  go_wp2_with fail
  refine (HC.out).mono ?_; rintro e w2 ⟨rfl, rfl⟩
  go_wp2_with fail
  go_ret
  exact ⟨rfl, hB⟩
/-- nothing but the fields that are named -/
def bareV (v : VT) (n f s r : Bool) : Bool := (n || decide (v.num = 0)) && ((f || zeroB v.flt) && ((s || v.str.isEmpty) && (r || (v.names.isEmpty && v.items.isEmpty))))
theorem ord_zero {f : Nat} (hf : F64 f) : (ordB f 0 == 0) = zeroB f := by
  unfold zeroB
  rw [Bool.eq_iff_iff, beq_iff_eq, decide_eq_true_eq]
  have hk0 : keyB 0 = 0 := by decide
  unfold ordB
  rw [hk0]
  have hc : canon f = 0 ↔ keyB f = 0 := by
    unfold canon keyB
    by_cases hn : Fl.isNaN f = true
    · rw [if_pos hn, if_pos hn]
      constructor
      · intro h; exact absurd h (by decide)
      · intro h; omega
    · rw [if_neg hn, if_neg hn]
      have h1 := ng_cases hf
      rcases h1 with ⟨h1, h2⟩ | ⟨h1, h2⟩
      · rw [h1]
        simp only [if_true]
        have := rg_lt f
        omega
      · rw [h1]
        simp only [Bool.false_eq_true, if_false]
        omega
  rw [hc]
  constructor
  · intro h
    split at h
    · omega
    · split at h <;> omega
  · intro h
    rw [h]
    simp
set_option maxRecDepth 100000 in
set_option maxHeartbeats 8000000 in
theorem bare_n (d : Nat) (v : VT) (g o : Nat) (w : World) (h : PtrTo w (d + 1) v g o) :
    Calls Tryz.prog 160 #[.pointer (some ⟨g, o, none⟩), .bool true, .bool false, .bool false, .bool false] w fun e w' => e = .returned (.bool (bareV v true false false false)) ∧ w = w' := by
  obtain ⟨pn, p, cap, hg, x0, x1, x2, x3, x4, x5, h4, h5, h6, h7, h9⟩ := h.open
  have HO := Lib.hid (fun w => order_any v.flt 0 h4 (by unfold F64; omega) w)
  have hz := ord_zero h4
  obtain ⟨pp, pc, rfl⟩ := h6.lenOf
  have HB := bareV.eq_def v true false false false
  clear h9 h5 h6 h7 h x0 hg h4
  have hnm : v.names.isEmpty = decide (v.names.length = 0) := by cases v.names <;> simp
  have hit : v.items.isEmpty = decide (v.items.length = 0) := by cases v.items <;> simp
  have hst : v.str.isEmpty = (⟨v.str.toArray⟩ : ByteArray).toList.isEmpty := by rw [ByteArray.toList_eq]
  rw [hnm, hit, hst, ← hz] at HB
  generalize v.names.length = N at *
  generalize v.items.length = M at *
  generalize (⟨v.str.toArray⟩ : ByteArray) = S at *
  generalize v.num = K at *
  generalize ordB v.flt 0 = Z at *
  clear hnm hit hst hz
  by_cases c2 : Z = 0
  · have t2 : (Z == 0) = true := by rw [c2]; rfl
    rw [t2] at HB
    clear c2
    by_cases c3 : S.toList = []
    · have t3 : S.toList.isEmpty = true := by rw [c3]; rfl
      rw [t3] at HB
      by_cases c4 : N = 0
      · have t4 : ((N : Int) == 0) = true := by rw [c4]; rfl
        rw [show decide (N = 0) = true from decide_eq_true c4] at HB
        by_cases c5 : M = 0
        · have t5 : ((M : Int) == 0) = true := by rw [c5]; rfl
          rw [show decide (M = 0) = true from decide_eq_true c5] at HB
          have HB := Lib.hid HB
          clear c4 c5
          go_enter Tryz.func160, Tryz.ntmps160
          go_wp2_with (go_at_call 154; refine (HO.out _).mono ?_; rintro e w' ⟨rfl, rfl⟩)
          go_ret
          exact ⟨ret_val (by rw [HB.out]; rfl), rfl⟩
        · have t5 : ((M : Int) == 0) = false := by rw [beq_eq_false_iff_ne]; omega
          rw [show decide (M = 0) = false from decide_eq_false c5] at HB
          have HB := Lib.hid HB
          clear c4
          go_enter Tryz.func160, Tryz.ntmps160
          go_wp2_with (go_at_call 154; refine (HO.out _).mono ?_; rintro e w' ⟨rfl, rfl⟩)
          go_ret
          exact ⟨ret_val (by rw [HB.out]; rfl), rfl⟩
      · have t4 : ((N : Int) == 0) = false := by rw [beq_eq_false_iff_ne]; omega
        rw [show decide (N = 0) = false from decide_eq_false c4] at HB
        have HB := Lib.hid HB
        go_enter Tryz.func160, Tryz.ntmps160
        go_wp2_with (go_at_call 154; refine (HO.out _).mono ?_; rintro e w' ⟨rfl, rfl⟩)
        go_ret
        exact ⟨ret_val (by rw [HB.out]; rfl), rfl⟩
    · have t3 : S.toList.isEmpty = false := by cases hh : S.toList with | nil => exact absurd hh c3 | cons a b => rfl
      rw [t3] at HB
      have HB := Lib.hid HB
      go_enter Tryz.func160, Tryz.ntmps160
      go_wp2_with (go_at_call 154; refine (HO.out _).mono ?_; rintro e w' ⟨rfl, rfl⟩)
      go_ret
      exact ⟨ret_val (by rw [HB.out]; rfl), rfl⟩
  · have t2 : (Z == 0) = false := beq_eq_false_iff_ne.2 c2
    rw [t2] at HB
    clear c2
    have HB := Lib.hid HB
    go_enter Tryz.func160, Tryz.ntmps160
    go_wp2_with (go_at_call 154; refine (HO.out _).mono ?_; rintro e w' ⟨rfl, rfl⟩)
    go_ret
    exact ⟨ret_val (by rw [HB.out]; rfl), rfl⟩
set_option maxRecDepth 100000 in
set_option maxHeartbeats 8000000 in
theorem bare_f (d : Nat) (v : VT) (g o : Nat) (w : World) (h : PtrTo w (d + 1) v g o) :
    Calls Tryz.prog 160 #[.pointer (some ⟨g, o, none⟩), .bool false, .bool true, .bool false, .bool false] w fun e w' => e = .returned (.bool (bareV v false true false false)) ∧ w = w' := by
  obtain ⟨pn, p, cap, hg, x0, x1, x2, x3, x4, x5, h4, h5, h6, h7, h9⟩ := h.open
  have HO := Lib.hid (fun w => order_any v.flt 0 h4 (by unfold F64; omega) w)
  have hz := ord_zero h4
  obtain ⟨pp, pc, rfl⟩ := h6.lenOf
  have HB := bareV.eq_def v false true false false
  clear h9 h5 h6 h7 h x0 hg h4
  have hnm : v.names.isEmpty = decide (v.names.length = 0) := by cases v.names <;> simp
  have hit : v.items.isEmpty = decide (v.items.length = 0) := by cases v.items <;> simp
  have hst : v.str.isEmpty = (⟨v.str.toArray⟩ : ByteArray).toList.isEmpty := by rw [ByteArray.toList_eq]
  rw [hnm, hit, hst, ← hz] at HB
  generalize v.names.length = N at *
  generalize v.items.length = M at *
  generalize (⟨v.str.toArray⟩ : ByteArray) = S at *
  generalize v.num = K at *
  generalize ordB v.flt 0 = Z at *
  clear hnm hit hst hz
  by_cases c1 : K = 0
  · have t1 : (K == 0) = true := by rw [c1]; rfl
    rw [show decide (K = 0) = true from decide_eq_true c1] at HB
    clear c1
    by_cases c3 : S.toList = []
    · have t3 : S.toList.isEmpty = true := by rw [c3]; rfl
      rw [t3] at HB
      by_cases c4 : N = 0
      · have t4 : ((N : Int) == 0) = true := by rw [c4]; rfl
        rw [show decide (N = 0) = true from decide_eq_true c4] at HB
        by_cases c5 : M = 0
        · have t5 : ((M : Int) == 0) = true := by rw [c5]; rfl
          rw [show decide (M = 0) = true from decide_eq_true c5] at HB
          have HB := Lib.hid HB
          clear c4 c5
          go_enter Tryz.func160, Tryz.ntmps160
          go_wp2_with (go_at_call 154; refine (HO.out _).mono ?_; rintro e w' ⟨rfl, rfl⟩)
          go_ret
          exact ⟨ret_val (by rw [HB.out]; rfl), rfl⟩
        · have t5 : ((M : Int) == 0) = false := by rw [beq_eq_false_iff_ne]; omega
          rw [show decide (M = 0) = false from decide_eq_false c5] at HB
          have HB := Lib.hid HB
          clear c4
          go_enter Tryz.func160, Tryz.ntmps160
          go_wp2_with (go_at_call 154; refine (HO.out _).mono ?_; rintro e w' ⟨rfl, rfl⟩)
          go_ret
          exact ⟨ret_val (by rw [HB.out]; rfl), rfl⟩
      · have t4 : ((N : Int) == 0) = false := by rw [beq_eq_false_iff_ne]; omega
        rw [show decide (N = 0) = false from decide_eq_false c4] at HB
        have HB := Lib.hid HB
        go_enter Tryz.func160, Tryz.ntmps160
        go_wp2_with (go_at_call 154; refine (HO.out _).mono ?_; rintro e w' ⟨rfl, rfl⟩)
        go_ret
        exact ⟨ret_val (by rw [HB.out]; rfl), rfl⟩
    · have t3 : S.toList.isEmpty = false := by cases hh : S.toList with | nil => exact absurd hh c3 | cons a b => rfl
      rw [t3] at HB
      have HB := Lib.hid HB
      go_enter Tryz.func160, Tryz.ntmps160
      go_wp2_with (go_at_call 154; refine (HO.out _).mono ?_; rintro e w' ⟨rfl, rfl⟩)
      go_ret
      exact ⟨ret_val (by rw [HB.out]; rfl), rfl⟩
  · have t1 : (K == 0) = false := beq_eq_false_iff_ne.2 c1
    rw [show decide (K = 0) = false from decide_eq_false c1] at HB
    clear c1
    have HB := Lib.hid HB
    go_enter Tryz.func160, Tryz.ntmps160
    go_wp2_with (go_at_call 154; refine (HO.out _).mono ?_; rintro e w' ⟨rfl, rfl⟩)
    go_ret
    exact ⟨ret_val (by rw [HB.out]; rfl), rfl⟩
set_option maxRecDepth 100000 in
set_option maxHeartbeats 8000000 in
theorem bare_s (d : Nat) (v : VT) (g o : Nat) (w : World) (h : PtrTo w (d + 1) v g o) :
    Calls Tryz.prog 160 #[.pointer (some ⟨g, o, none⟩), .bool false, .bool false, .bool true, .bool false] w fun e w' => e = .returned (.bool (bareV v false false true false)) ∧ w = w' := by
  obtain ⟨pn, p, cap, hg, x0, x1, x2, x3, x4, x5, h4, h5, h6, h7, h9⟩ := h.open
  have HO := Lib.hid (fun w => order_any v.flt 0 h4 (by unfold F64; omega) w)
  have hz := ord_zero h4
  obtain ⟨pp, pc, rfl⟩ := h6.lenOf
  have HB := bareV.eq_def v false false true false
  clear h9 h5 h6 h7 h x0 hg h4
  have hnm : v.names.isEmpty = decide (v.names.length = 0) := by cases v.names <;> simp
  have hit : v.items.isEmpty = decide (v.items.length = 0) := by cases v.items <;> simp
  have hst : v.str.isEmpty = (⟨v.str.toArray⟩ : ByteArray).toList.isEmpty := by rw [ByteArray.toList_eq]
  rw [hnm, hit, hst, ← hz] at HB
  generalize v.names.length = N at *
  generalize v.items.length = M at *
  generalize (⟨v.str.toArray⟩ : ByteArray) = S at *
  generalize v.num = K at *
  generalize ordB v.flt 0 = Z at *
  clear hnm hit hst hz
  by_cases c1 : K = 0
  · have t1 : (K == 0) = true := by rw [c1]; rfl
    rw [show decide (K = 0) = true from decide_eq_true c1] at HB
    clear c1
    by_cases c2 : Z = 0
    · have t2 : (Z == 0) = true := by rw [c2]; rfl
      rw [t2] at HB
      clear c2
      by_cases c4 : N = 0
      · have t4 : ((N : Int) == 0) = true := by rw [c4]; rfl
        rw [show decide (N = 0) = true from decide_eq_true c4] at HB
        by_cases c5 : M = 0
        · have t5 : ((M : Int) == 0) = true := by rw [c5]; rfl
          rw [show decide (M = 0) = true from decide_eq_true c5] at HB
          have HB := Lib.hid HB
          clear c4 c5
          go_enter Tryz.func160, Tryz.ntmps160
          go_wp2_with (go_at_call 154; refine (HO.out _).mono ?_; rintro e w' ⟨rfl, rfl⟩)
          go_ret
          exact ⟨ret_val (by rw [HB.out]; rfl), rfl⟩
        · have t5 : ((M : Int) == 0) = false := by rw [beq_eq_false_iff_ne]; omega
          rw [show decide (M = 0) = false from decide_eq_false c5] at HB
          have HB := Lib.hid HB
          clear c4
          go_enter Tryz.func160, Tryz.ntmps160
          go_wp2_with (go_at_call 154; refine (HO.out _).mono ?_; rintro e w' ⟨rfl, rfl⟩)
          go_ret
          exact ⟨ret_val (by rw [HB.out]; rfl), rfl⟩
      · have t4 : ((N : Int) == 0) = false := by rw [beq_eq_false_iff_ne]; omega
        rw [show decide (N = 0) = false from decide_eq_false c4] at HB
        have HB := Lib.hid HB
        go_enter Tryz.func160, Tryz.ntmps160
        go_wp2_with (go_at_call 154; refine (HO.out _).mono ?_; rintro e w' ⟨rfl, rfl⟩)
        go_ret
        exact ⟨ret_val (by rw [HB.out]; rfl), rfl⟩
    · have t2 : (Z == 0) = false := beq_eq_false_iff_ne.2 c2
      rw [t2] at HB
      clear c2
      have HB := Lib.hid HB
      go_enter Tryz.func160, Tryz.ntmps160
      go_wp2_with (go_at_call 154; refine (HO.out _).mono ?_; rintro e w' ⟨rfl, rfl⟩)
      go_ret
      exact ⟨ret_val (by rw [HB.out]; rfl), rfl⟩
  · have t1 : (K == 0) = false := beq_eq_false_iff_ne.2 c1
    rw [show decide (K = 0) = false from decide_eq_false c1] at HB
    clear c1
    have HB := Lib.hid HB
    go_enter Tryz.func160, Tryz.ntmps160
    go_wp2_with (go_at_call 154; refine (HO.out _).mono ?_; rintro e w' ⟨rfl, rfl⟩)
    go_ret
    exact ⟨ret_val (by rw [HB.out]; rfl), rfl⟩
set_option maxRecDepth 100000 in
set_option maxHeartbeats 8000000 in
theorem bare_r (d : Nat) (v : VT) (g o : Nat) (w : World) (h : PtrTo w (d + 1) v g o) :
    Calls Tryz.prog 160 #[.pointer (some ⟨g, o, none⟩), .bool false, .bool false, .bool false, .bool true] w fun e w' => e = .returned (.bool (bareV v false false false true)) ∧ w = w' := by
  obtain ⟨pn, p, cap, hg, x0, x1, x2, x3, x4, x5, h4, h5, h6, h7, h9⟩ := h.open
  have HO := Lib.hid (fun w => order_any v.flt 0 h4 (by unfold F64; omega) w)
  have hz := ord_zero h4
  obtain ⟨pp, pc, rfl⟩ := h6.lenOf
  have HB := bareV.eq_def v false false false true
  clear h9 h5 h6 h7 h x0 hg h4
  have hnm : v.names.isEmpty = decide (v.names.length = 0) := by cases v.names <;> simp
  have hit : v.items.isEmpty = decide (v.items.length = 0) := by cases v.items <;> simp
  have hst : v.str.isEmpty = (⟨v.str.toArray⟩ : ByteArray).toList.isEmpty := by rw [ByteArray.toList_eq]
  rw [hnm, hit, hst, ← hz] at HB
  generalize v.names.length = N at *
  generalize v.items.length = M at *
  generalize (⟨v.str.toArray⟩ : ByteArray) = S at *
  generalize v.num = K at *
  generalize ordB v.flt 0 = Z at *
  clear hnm hit hst hz
  by_cases c1 : K = 0
  · have t1 : (K == 0) = true := by rw [c1]; rfl
    rw [show decide (K = 0) = true from decide_eq_true c1] at HB
    clear c1
    by_cases c2 : Z = 0
    · have t2 : (Z == 0) = true := by rw [c2]; rfl
      rw [t2] at HB
      clear c2
      by_cases c3 : S.toList = []
      · have t3 : S.toList.isEmpty = true := by rw [c3]; rfl
        rw [t3] at HB
        have HB := Lib.hid HB
        go_enter Tryz.func160, Tryz.ntmps160
        go_wp2_with (go_at_call 154; refine (HO.out _).mono ?_; rintro e w' ⟨rfl, rfl⟩)
        go_ret
        exact ⟨ret_val (by rw [HB.out]; rfl), rfl⟩
      · have t3 : S.toList.isEmpty = false := by cases hh : S.toList with | nil => exact absurd hh c3 | cons a b => rfl
        rw [t3] at HB
        have HB := Lib.hid HB
        go_enter Tryz.func160, Tryz.ntmps160
        go_wp2_with (go_at_call 154; refine (HO.out _).mono ?_; rintro e w' ⟨rfl, rfl⟩)
        go_ret
        exact ⟨ret_val (by rw [HB.out]; rfl), rfl⟩
    · have t2 : (Z == 0) = false := beq_eq_false_iff_ne.2 c2
      rw [t2] at HB
      clear c2
      have HB := Lib.hid HB
      go_enter Tryz.func160, Tryz.ntmps160
      go_wp2_with (go_at_call 154; refine (HO.out _).mono ?_; rintro e w' ⟨rfl, rfl⟩)
      go_ret
      exact ⟨ret_val (by rw [HB.out]; rfl), rfl⟩
  · have t1 : (K == 0) = false := beq_eq_false_iff_ne.2 c1
    rw [show decide (K = 0) = false from decide_eq_false c1] at HB
    clear c1
    have HB := Lib.hid HB
    go_enter Tryz.func160, Tryz.ntmps160
    go_wp2_with (go_at_call 154; refine (HO.out _).mono ?_; rintro e w' ⟨rfl, rfl⟩)
    go_ret
    exact ⟨ret_val (by rw [HB.out]; rfl), rfl⟩
end
section
open Go
theorem rdV_step {f p : Nat} (k : UInt8) (l : List UInt8) (hp : p < 200) : rdV (f + 1) p (k :: l) =
    if k.toNat = 1 then (match rdBool l with | none => none | some r => some (.mk 1 r.1 0 [] [] [], p + 1, r.2))
    else if k.toNat = 2 then (match rdInt l with | none => none | some r => some (.mk 2 r.1 0 [] [] [], p + 1, r.2))
    else if k.toNat = 3 then (match rdFlt l with | none => none | some r => some (.mk 3 0 r.1 [] [] [], p + 1, r.2))
    else if k.toNat = 4 then (match rdStr 200 l with | none => none | some r => some (.mk 4 0 0 r.1 [] [], p + 1, r.2))
    else if k.toNat = 5 ∨ k.toNat = 6 then
      match rdU l with
      | none => none
      | some r => if 200 < r.1 then none else
          match rdItems (rdV f) (decide (k.toNat = 6)) r.1 (p + 1) r.2 with
          | none => none
          | some c => some (.mk (k.toNat : Nat) 0 0 [] c.1 c.2.1, c.2.2)
    else none := by
  rw [rdV, if_neg (by omega)]; rfl
theorem rightL_mem : ∀ {l : List VT} {f : Nat}, rightL l f = true → ∀ v ∈ l, rightV v f = true
  | [], _, _, v, h => by cases h
  | x :: xs, f, h, v, hv => by
    rw [rightL, Bool.and_eq_true] at h
    rcases List.mem_cons.1 hv with rfl | hv
    · exact h.1
    · exact rightL_mem h.2 v hv
theorem right_kind {v : VT} {far : Nat} (h : rightV v far = true) : v.kind = 1 ∨ v.kind = 2 ∨ v.kind = 3 ∨ v.kind = 4 ∨ v.kind = 5 ∨ v.kind = 6 := by
  cases v with
  | mk k n f s ns its =>
    rw [rightV] at h
    show k = 1 ∨ k = 2 ∨ k = 3 ∨ k = 4 ∨ k = 5 ∨ k = 6
    split at h
    · cases h
    by_cases h1 : k = 1; · exact .inl h1
    by_cases h2 : k = 2; · exact .inr (.inl h2)
    by_cases h3 : k = 3; · exact .inr (.inr (.inl h3))
    by_cases h4 : k = 4; · exact .inr (.inr (.inr (.inl h4)))
    by_cases h5 : k = 5; · exact .inr (.inr (.inr (.inr (.inl h5))))
    by_cases h6 : k = 6; · exact .inr (.inr (.inr (.inr (.inr h6))))
    rw [if_neg h1, if_neg h2, if_neg h3, if_neg h4, if_neg h5, if_neg h6] at h
    cases h
end
section
open Go
theorem right0 (v : VT) : rightV v 0 = false := by cases v; rw [rightV]; rfl
theorem right1 {v : VT} {f : Nat} (hk : v.kind = 1) : rightV v (f + 1) = (bareV v true false false false && decide (v.num = 0 ∨ v.num = 1)) := by
  cases v with
  | mk k n fl s ns its =>
    have hk : k = 1 := hk
    subst hk
    rw [rightV, if_neg (by omega), if_pos rfl]
    unfold bareV VT.num VT.flt VT.str VT.names VT.items
    rw [Bool.eq_iff_iff]
    simp only [Bool.true_or, Bool.false_or, Bool.true_and, Bool.and_eq_true, decide_eq_true_eq]
    constructor
    · rintro ⟨⟨⟨⟨a, b⟩, c⟩, d⟩, e⟩; exact ⟨⟨c, d, b, a⟩, e⟩
    · rintro ⟨⟨c, d, b, a⟩, e⟩; exact ⟨⟨⟨⟨a, b⟩, c⟩, d⟩, e⟩
theorem right2 {v : VT} {f : Nat} (hk : v.kind = 2) : rightV v (f + 1) = bareV v true false false false := by
  cases v with
  | mk k n fl s ns its =>
    have hk : k = 2 := hk
    subst hk
    rw [rightV, if_neg (by omega), if_neg (by omega), if_pos rfl]
    unfold bareV VT.num VT.flt VT.str VT.names VT.items
    rw [Bool.eq_iff_iff]
    simp only [Bool.true_or, Bool.false_or, Bool.true_and, Bool.and_eq_true]
    constructor
    · rintro ⟨⟨⟨a, b⟩, c⟩, d⟩; exact ⟨c, d, b, a⟩
    · rintro ⟨c, d, b, a⟩; exact ⟨⟨⟨a, b⟩, c⟩, d⟩
theorem right3 {v : VT} {f : Nat} (hk : v.kind = 3) : rightV v (f + 1) = bareV v false true false false := by
  cases v with
  | mk k n fl s ns its =>
    have hk : k = 3 := hk
    subst hk
    rw [rightV, if_neg (by omega), if_neg (by omega), if_neg (by omega), if_pos rfl]
    unfold bareV VT.num VT.flt VT.str VT.names VT.items
    rw [Bool.eq_iff_iff]
    simp only [Bool.true_or, Bool.false_or, Bool.true_and, Bool.and_eq_true]
    constructor
    · rintro ⟨⟨⟨a, b⟩, c⟩, d⟩; exact ⟨c, d, b, a⟩
    · rintro ⟨c, d, b, a⟩; exact ⟨⟨⟨a, b⟩, c⟩, d⟩
theorem right4 {v : VT} {f : Nat} (hk : v.kind = 4) : rightV v (f + 1) = (bareV v false false true false && decide (v.str.length ≤ 200)) := by
  cases v with
  | mk k n fl s ns its =>
    have hk : k = 4 := hk
    subst hk
    rw [rightV, if_neg (by omega), if_neg (by omega), if_neg (by omega), if_neg (by omega), if_pos rfl]
    unfold bareV VT.num VT.flt VT.str VT.names VT.items
    rw [Bool.eq_iff_iff]
    simp only [Bool.true_or, Bool.false_or, Bool.true_and, Bool.and_eq_true, decide_eq_true_eq]
    constructor
    · rintro ⟨⟨⟨⟨a, b⟩, c⟩, d⟩, e⟩; exact ⟨⟨d, c, b, a⟩, e⟩
    · rintro ⟨⟨d, c, b, a⟩, e⟩; exact ⟨⟨⟨⟨a, b⟩, c⟩, d⟩, e⟩
theorem right5 {v : VT} {f : Nat} (hk : v.kind = 5) : rightV v (f + 1) = (bareV v false false false true && (decide (v.names.length = 0) && rightL v.items f)) := by
  cases v with
  | mk k n fl s ns its =>
    have hk : k = 5 := hk
    subst hk
    rw [rightV, if_neg (by omega), if_neg (by omega), if_neg (by omega), if_neg (by omega), if_neg (by omega), if_pos rfl]
    unfold bareV VT.num VT.flt VT.str VT.names VT.items
    rw [Bool.eq_iff_iff]
    simp only [Bool.true_or, Bool.false_or, Bool.and_true, Bool.and_eq_true, decide_eq_true_eq, Nat.add_sub_cancel, List.length_eq_zero_iff, List.isEmpty_iff]
    constructor
    · rintro ⟨⟨⟨⟨a, b⟩, c⟩, d⟩, e⟩; exact ⟨⟨b, a, c⟩, d, e⟩
    · rintro ⟨⟨b, a, c⟩, d, e⟩; exact ⟨⟨⟨⟨a, b⟩, c⟩, d⟩, e⟩
theorem right6 {v : VT} {f : Nat} (hk : v.kind = 6) : rightV v (f + 1) = (decide (v.names.length = v.items.length) && (risesB v.names && (bareV v false false false true && rightL v.items f))) := by
  cases v with
  | mk k n fl s ns its =>
    have hk : k = 6 := hk
    subst hk
    rw [rightV, if_neg (by omega), if_neg (by omega), if_neg (by omega), if_neg (by omega), if_neg (by omega), if_neg (by omega), if_pos rfl]
    unfold bareV VT.num VT.flt VT.str VT.names VT.items
    rw [Bool.eq_iff_iff]
    simp only [Bool.true_or, Bool.false_or, Bool.and_true, Bool.and_eq_true, decide_eq_true_eq, Nat.add_sub_cancel, List.isEmpty_iff]
    constructor
    · rintro ⟨⟨⟨⟨a, b⟩, c⟩, d, e⟩, f⟩; exact ⟨e, d, ⟨b, a, c⟩, f⟩
    · rintro ⟨e, d, ⟨b, a, c⟩, f⟩; exact ⟨⟨⟨⟨a, b⟩, c⟩, d, e⟩, f⟩
theorem rightX {v : VT} {f : Nat} (h1 : v.kind ≠ 1) (h2 : v.kind ≠ 2) (h3 : v.kind ≠ 3) (h4 : v.kind ≠ 4) (h5 : v.kind ≠ 5) (h6 : v.kind ≠ 6) : rightV v f = false := by
  cases hr : rightV v f with
  | false => rfl
  | true => rcases right_kind hr with h | h | h | h | h | h <;> exact absurd h ‹_›
theorem rightL_drop {l : List VT} {i f : Nat} (hi : i < l.length) : rightL (l.drop i) f = (rightV (l.getD i noVT) f && rightL (l.drop (i + 1)) f) := by
  have e : l.getD i noVT = l[i] := by simp [List.getD, hi]
  rw [List.drop_eq_getElem_cons hi, rightL, e]
theorem rightL_end {l : List VT} {i f : Nat} (hi : l.length ≤ i) : rightL (l.drop i) f = true := by
  rw [List.drop_eq_nil_of_le hi, rightL]
end
end Go.Proofs.YtnaamiecljinnaaGreat
