/-
  V7, V8, V9, Bd, C1, Y1, Y2, Fo in one text.
-/
import Derived.Below
import Derived.BigQuiet
import Derived.Deep.Cut
import Derived.Deep.QuietTactic
import Derived.Handy
import Derived.IntWalk
import Derived.Laws.Bits64b
import Derived.Laws.FloatBits
import Derived.Lib.AtoiAll
import Derived.Lib.Builder
import Derived.Lib.Bytes
import Derived.Lib.ConvBytes
import Derived.Lib.FrozenHead2
import Derived.Lib.Hide
import Derived.Lib.IndexMore
import Derived.Lib.ItoaNum
import Derived.Lib.MinMax
import Derived.Lib.OthersKept
import Derived.Lib.ParseIntB
import Derived.Lib.UnsafeStr
import Derived.LoopTactic
import Derived.OneCell
import Derived.OwnWalk
import Derived.RegionTactic
import Derived.Tactics
import Derived.Tactics2
import Derived.Test.YtnaamiecljinnaaGreatChecked
import Derived.WalkKit
import Derived.WalkLawsBesides
import Derived.WalkSpells
import Ieee.Arith
import Derived.Test.YtnaamiecljinnaaGreatS00
namespace Go.Proofs.YtnaamiecljinnaaGreat
section
open Go.RowKit
theorem u8_beq (c : UInt8) (n : UInt8) : (c == n) = ((c.toNat : Int) == (n.toNat : Int)) := by
  rw [Bool.eq_iff_iff, beq_iff_eq, beq_iff_eq, ← UInt8.toNat_inj]
  omega
/-- so far it may be a name -/
def NmTo (l : List UInt8) (k : Nat) : Prop := (k = 0 ∨ isLet (l.getD 0 0) = true) ∧ (l.take k).all isNm = true
theorem NmTo.zero (l : List UInt8) : NmTo l 0 := ⟨.inl rfl, rfl⟩
theorem NmTo.step {l : List UInt8} {k : Nat} (h : NmTo l k) (hk : k < l.length) (hn : isNm (l.getD k 0) = true) (h0 : k ≠ 0 ∨ isLet (l.getD k 0) = true) : NmTo l (k + 1) := by
  have e : l.getD k 0 = l[k] := by simp [List.getD, hk]
  refine ⟨.inr ?_, ?_⟩
  · rcases Nat.eq_zero_or_pos k with rfl | hp
    · rcases h0 with h0 | h0
      · exact absurd rfl h0
      · exact h0
    · rcases h.1 with h1 | h1
      · omega
      · exact h1
  · rw [List.take_succ_eq_append_getElem hk, List.all_append, h.2, ← e, List.all_cons, hn]
    rfl
theorem NmTo.whole {l : List UInt8} (h : NmTo l l.length) (h1 : 1 ≤ l.length) (h2 : l.length ≤ 30) : nmB l = true := by
  unfold nmB
  have h3 := h.2
  rw [List.take_length] at h3
  rcases h.1 with h0 | h0
  · omega
  · rw [h0, h3, decide_eq_true (show 1 ≤ l.length ∧ l.length ≤ 30 from ⟨h1, h2⟩)]; rfl
theorem nmB_no {l : List UInt8} {k : Nat} (hk : k < l.length) (hn : isNm (l.getD k 0) = false) : nmB l = false := by
  have e : l.getD k 0 = l[k] := by simp [List.getD, hk]
  have : l.all isNm = false := by
    rw [← Bool.not_eq_true, List.all_eq_true]
    intro h
    have := h _ (List.getElem_mem hk)
    rw [← e, hn] at this
    cases this
  unfold nmB
  rw [this, Bool.and_false]
theorem nmB_no0 {l : List UInt8} (hn : isLet (l.getD 0 0) = false) : nmB l = false := by
  unfold nmB
  rw [hn, Bool.and_false, Bool.false_and]
theorem nmB_short {l : List UInt8} (h : ¬ (1 ≤ l.length ∧ l.length ≤ 30)) : nmB l = false := by
  unfold nmB
  rw [decide_eq_false h, Bool.false_and, Bool.false_and]
set_option maxRecDepth 100000 in
set_option maxHeartbeats 4000000 in
theorem rname4_any (s : ByteArray) (w : World) : Calls Tryz.prog 106 #[.string s] w fun e w' => e = .returned (.bool (nmB s.data.toList)) ∧ w = w' := by
  have hl : s.data.toList.length = s.size := by simp
  have HL := Lib.hid hl; clear hl
  by_cases h1 : s.size < 1
  · have t1 : decide ((s.size : Int) < 1) = true := by simp; omega
    have HX := Lib.hid (nmB_short (l := s.data.toList) (by rw [HL.out]; omega))
    go_enter Tryz.func106, Tryz.ntmps106
    go_wp2_with fail
    go_ret
    exact ⟨ret_val (by rw [HX.out]; rfl), rfl⟩
  · have t1 : decide ((s.size : Int) < 1) = false := by simp; omega
    by_cases h2 : 30 < s.size
    · have t2 : decide ((30 : Int) < (s.size : Int)) = true := by simp; omega
      have HX := Lib.hid (nmB_short (l := s.data.toList) (by rw [HL.out]; omega))
      go_enter Tryz.func106, Tryz.ntmps106
      go_wp2_with fail
      go_ret
      exact ⟨ret_val (by rw [HX.out]; rfl), rfl⟩
    · have t2 : decide ((30 : Int) < (s.size : Int)) = false := by simp; omega
      have t2' : ¬ 30 < s.size := h2
      go_enter Tryz.func106, Tryz.ntmps106
      go_wp2_with fail
      go_loop [3] (fun kv => ∃ k : Nat, k ≤ s.size ∧ kv = .int .i64 k ∧ NmTo s.data.toList k) (fun kv => s.size - (intOf kv).toNat)
      case atStart => exact ⟨0, Nat.zero_le _, rfl, NmTo.zero _⟩
      case round =>
        obtain ⟨k, hk, rfl, hnm⟩ := hrel
        by_cases hlt : k < s.size
        · have t0 : decide ((k : Int) < (s.size : Int)) = true := by simp; omega
          have hg0 : s.data.toList.getD k 0 = s[k]'hlt := by simp [List.getD, hlt]; rfl
          have HStep := Lib.hid (fun hn h0 => hnm.step (by rw [HL.out]; exact hlt) hn h0)
          have HNo := Lib.hid (fun hn => nmB_no (l := s.data.toList) (k := k) (by rw [HL.out]; exact hlt) hn)
          rw [hg0] at HStep HNo
          have hN0 : isLet (s[k]'hlt) = false → k = 0 → nmB s.data.toList = false := by
            intro h hk0
            refine nmB_no0 ?_
            rw [← hg0] at h
            rw [hk0] at h
            exact h
          have HNo0 := Lib.hid hN0
          clear hnm hg0 hN0
          have hLt : isLet (s[k]'hlt) = (decide ((97 : Int) ≤ ((s[k]'hlt).toNat : Int)) && decide (((s[k]'hlt).toNat : Int) ≤ 122)) := by
            unfold isLet
            rw [Bool.eq_iff_iff]; simp; omega
          have hDg : isDig (s[k]'hlt) = (decide ((48 : Int) ≤ ((s[k]'hlt).toNat : Int)) && decide (((s[k]'hlt).toNat : Int) ≤ 57)) := by
            show decide (48 ≤ (s[k]'hlt).toNat ∧ (s[k]'hlt).toNat ≤ 57) = _
            rw [Bool.eq_iff_iff]; simp; omega
          have hNm : isNm (s[k]'hlt) = (isLet (s[k]'hlt) || isDig (s[k]'hlt) || ((s[k]'hlt).toNat : Int) == 95) := by unfold isNm; rw [u8_beq (s[k]'hlt) 95]; rfl
          rw [hLt, hDg] at hNm
          have HNm := Lib.hid hNm
          have HLt := Lib.hid hLt
          clear hNm hLt hDg
          cases a1 : decide ((97 : Int) ≤ ((s[k]'hlt).toNat : Int)) <;> cases a2 : decide (((s[k]'hlt).toNat : Int) ≤ 122)
          case true.true =>
            rw [a1, a2] at HLt HNm
            have HY := Lib.hid (HStep.out (by rw [HNm.out]; rfl) (.inr (by rw [HLt.out]; rfl)))
            go_wp2_with fail
            go_round
            case rel => exact ⟨k + 1, by omega, by go_num, HY.out⟩
            case measure => simp [intOf]; omega
          all_goals
            rw [a1, a2] at HLt HNm
            by_cases hk0 : k = 0
            · have HX := Lib.hid (HNo0.out (by rw [HLt.out]; rfl) hk0)
              have tk : ((k : Int) == 0) = true := by rw [hk0]; rfl
              clear hk0
              go_wp2_with fail
              go_ret
              exact ⟨ret_val (by rw [HX.out]; rfl), rfl⟩
            · have tk : ((k : Int) == 0) = false := by rw [beq_eq_false_iff_ne]; omega
              cases a3 : decide ((48 : Int) ≤ ((s[k]'hlt).toNat : Int)) <;> cases a4 : decide (((s[k]'hlt).toNat : Int) ≤ 57)
              case neg.true.true =>
                rw [a3, a4] at HNm
                have HY := Lib.hid (HStep.out (by rw [HNm.out]; rfl) (.inl hk0))
                go_wp2_with fail
                go_round
                case rel => exact ⟨k + 1, by omega, by go_num, HY.out⟩
                case measure => simp [intOf]; omega
              all_goals
                rw [a3, a4] at HNm
                cases a5 : (((s[k]'hlt).toNat : Int) == 95)
                · have a6 : (((s[k]'hlt).toNat : Int) != 95) = true := by rw [bne, a5]; rfl
                  rw [a5] at HNm
                  have HX := Lib.hid (HNo.out (by rw [HNm.out]; rfl))
                  go_wp2_with fail
                  go_ret
                  exact ⟨ret_val (by rw [HX.out]; rfl), rfl⟩
                · have a6 : (((s[k]'hlt).toNat : Int) != 95) = false := by rw [bne, a5]; rfl
                  rw [a5] at HNm
                  have HY := Lib.hid (HStep.out (by rw [HNm.out]; rfl) (.inl hk0))
                  go_wp2_with fail
                  go_round
                  case rel => exact ⟨k + 1, by omega, by go_num, HY.out⟩
                  case measure => simp [intOf]; omega
        · have t0 : decide ((k : Int) < (s.size : Int)) = false := by simp; omega
          have hks : k = s.size := by omega
          have t0' : ¬ k < s.size := hlt
          rw [hks, ← HL.out] at hnm
          have HX := Lib.hid (hnm.whole (by rw [HL.out]; omega) (by rw [HL.out]; omega))
          clear hks hnm
          go_wp2_with fail
          go_ret
          exact ⟨ret_val (by rw [HX.out]; rfl), rfl⟩
end
section
open Go
def okAt (l : List (List UInt8)) (i : Nat) : Bool := nmB (l.getD i []) && (decide (i = 0) || Op.bytesLess (l.getD (i - 1) []) (l.getD i []))
theorem rises_iff : ∀ l : List (List UInt8), risesB l = true ↔ ∀ i, i < l.length → okAt l i = true
  | [] => by simp [risesB]
  | [a] => by
    constructor
    · intro h i hi
      have : i = 0 := by simp at hi; exact hi
      subst this
      simpa [okAt, risesB] using h
    · intro h
      have := h 0 (by simp)
      simpa [okAt, risesB] using this
  | a :: b :: l => by
    have ih := rises_iff (b :: l)
    rw [risesB, Bool.and_eq_true, Bool.and_eq_true, ih]
    constructor
    · rintro ⟨⟨h1, h2⟩, h3⟩ i hi
      match i with
      | 0 => simp [okAt, h1]
      | 1 =>
        have := h3 0 (by simp)
        simp [okAt] at this ⊢
        exact ⟨this, h2⟩
      | i + 2 =>
        have := h3 (i + 1) (by simp at hi ⊢; omega)
        simpa [okAt] using this
    · intro h
      refine ⟨⟨?_, ?_⟩, ?_⟩
      · have := h 0 (by simp)
        simp [okAt] at this
        exact this
      · have := h 1 (by simp)
        simp [okAt] at this
        exact this.2
      · intro i hi
        match i with
        | 0 =>
          have := h 1 (by simp)
          simp [okAt] at this ⊢
          exact this.1
        | i + 1 =>
          have := h (i + 2) (by simp at hi ⊢; omega)
          simpa [okAt] using this
end
section
open Go.RowKit
def namesB (l : List (List UInt8)) (n : Int) : Bool := risesB l && decide ((l.length : Int) = n)
theorem rises_no {l : List (List UInt8)} {i : Nat} (hi : i < l.length) (h : okAt l i = false) : risesB l = false := by
  rw [← Bool.not_eq_true, rises_iff]
  intro g
  rw [g i hi] at h
  cases h
set_option maxRecDepth 100000 in
set_option maxHeartbeats 1000000 in
theorem rnames_any (l : List (List UInt8)) (v : Value) (n : Int) (w : World) (h : Strs w l v) :
    Calls Tryz.prog 110 #[v, .int .i64 n] w fun e w' => e = .returned (.bool (namesB l n)) ∧ ∃ q, w' = w.drewN q := by
  obtain ⟨h1, h2, h3⟩ := h
  have h3' : ∃ p cap, v = .slice p l.length cap ∧ ∀ i, i < l.length → ∃ g off, p = some ⟨g, off, none⟩ ∧ ∀ j, j < l.length → w.cell? ⟨g, off + j, none⟩ = some (.string ⟨(l.getD j []).toArray⟩) := by
    rcases h3 with ⟨h3, p, c, hp⟩ | ⟨g, off, cap, hp, hg, hc⟩
    · subst h3
      exact ⟨p, c, hp, fun i hi => absurd hi (by simp)⟩
    · exact ⟨_, cap, hp, fun i hi => ⟨g, off, rfl, hc⟩⟩
  obtain ⟨p, cap, rfl, h4⟩ := h3'
  have H4 := Lib.hid h4
  clear h3 h4 h2
  have HS := Lib.hid (namesB.eq_def l n)
  have HNo := Lib.hid (fun i hi hk => rises_no (l := l) (i := i) hi hk)
  generalize hN : l.length = N at *
  have HN := Lib.hid hN
  clear hN
  go_enter Tryz.func110, Tryz.ntmps110
  go_wp2_with fail
  go_loopw [5] (fun iv wr => ∃ i q : Nat, i ≤ N ∧ iv = .int .i64 i ∧ Hid (wr = w.drewN q) ∧ Hid (∀ j, j < i → okAt l j = true)) (fun iv _ => N - (intOf iv).toNat)
  case atStart => exact ⟨0, 0, by omega, rfl, rfl, fun j hj => absurd hj (by omega)⟩
  case round =>
    obtain ⟨i, q, hi, rfl, hw, hall⟩ := hrel
    by_cases hlt : i < N
    · have t0 : decide ((i : Int) < (N : Int)) = true := by simp; omega
      obtain ⟨g, off, rfl, hc⟩ := H4.out i hlt
      have x1 : wr.cell? ⟨g, off + i, none⟩ = some (.string ⟨(l.getD i []).toArray⟩) := by rw [hw.out]; exact hc i hlt
      have x2 : wr.cell? ⟨g, off + (i - 1), none⟩ = some (.string ⟨(l.getD (i - 1) []).toArray⟩) := by rw [hw.out]; exact hc (i - 1) (by omega)
      have hnm := rname4_any ⟨(l.getD i []).toArray⟩
      rw [show (⟨(l.getD i []).toArray⟩ : ByteArray).data.toList = l.getD i [] from rfl] at hnm
      have HNm := Lib.hid hnm
      have HOk := Lib.hid (okAt.eq_def l i)
      have b1 : (0 : Int) ≤ (i : Int) := by omega
      have b2 : (i : Int) < (N : Int) := by omega
      clear hc hnm
      have HAll := Lib.hid (fun (h : okAt l i = true) j (hj : j < i + 1) => (show okAt l j = true from by
        rcases Nat.lt_or_ge j i with g | g
        · exact hall.out j g
        · rw [show j = i by omega]; exact h))
      have HNi := Lib.hid (HNo.out i hlt)
      generalize hA : l.getD i [] = A at *
      generalize hB : l.getD (i - 1) [] = B at *
      clear hA hB
      cases hb : nmB A
      · rw [hb] at HNm HOk
        have HX := Lib.hid (HNi.out (by rw [HOk.out]; rfl))
        go_wp2_with fail
        go_quiet (refine Calls.quiet_of_same ((HNm.out _).mono fun _ _ h => ⟨h.1, h.2.symm⟩))
        go_wp2_with fail
        go_ret
        exact ⟨ret_val (by rw [HS.out, HX.out]; rfl), q + nq, by rw [hw.out]; simp⟩
      · rw [hb] at HNm HOk
        by_cases hi0 : i = 0
        · have t1 : decide ((0 : Int) < (i : Int)) = false := by simp; omega
          have t1' : ¬ 0 < i := by omega
          have t1n : decide (0 < i) = false := by simp; omega
          have HY := Lib.hid (HAll.out (by rw [HOk.out, decide_eq_true hi0]; rfl))
          clear hi0
          go_wp2_with fail
          go_quiet (refine Calls.quiet_of_same ((HNm.out _).mono fun _ _ h => ⟨h.1, h.2.symm⟩))
          go_wp2_with fail
          go_roundw
          case rel => exact ⟨i + 1, q + nq, by omega, by go_num, by show _ = _; rw [hw.out]; simp, HY.out⟩
          case measure => simp [intOf]; omega
        · have t1 : decide ((0 : Int) < (i : Int)) = true := by simp; omega
          have t1p : 0 < i := by omega
          have t1n : decide (0 < i) = true := by simp; omega
          have w1 : IntKind.i64.wrap ((i : Int) - 1) = ((i - 1 : Nat) : Int) := by rw [IntKind.wrap_i64]; omega
          have w2 : (0 : Int) ≤ ((i - 1 : Nat) : Int) := by omega
          have w3 : ((i - 1 : Nat) : Int) < (N : Int) := by omega
          have HI := Lib.hid (decide_eq_false hi0)
          clear hi0
          cases hl : Op.bytesLess B A
          · have HX := Lib.hid (HNi.out (by rw [HOk.out, HI.out, hl]; rfl))
            go_wp2_with fail
            go_quiet (refine Calls.quiet_of_same ((HNm.out _).mono fun _ _ h => ⟨h.1, h.2.symm⟩))
            go_wp2_with fail
            go_ret
            exact ⟨ret_val (by rw [HS.out, HX.out]; rfl), q + nq, by rw [hw.out]; simp⟩
          · have HY := Lib.hid (HAll.out (by rw [HOk.out, HI.out, hl]; rfl))
            go_wp2_with fail
            go_quiet (refine Calls.quiet_of_same ((HNm.out _).mono fun _ _ h => ⟨h.1, h.2.symm⟩))
            go_wp2_with fail
            go_roundw
            case rel => exact ⟨i + 1, q + nq, by omega, by go_num, by show _ = _; rw [hw.out]; simp, HY.out⟩
            case measure => simp [intOf]; omega
    · have t0 : decide ((i : Int) < (N : Int)) = false := by simp; omega
      have hr : risesB l = true := (rises_iff l).2 (fun j hj => hall.out j (by rw [HN.out] at hj; omega))
      have HR := Lib.hid hr; clear hr
      by_cases hn : (N : Int) = n
      · have t2 : ((N : Int) == n) = true := by rw [hn]; exact beq_self_eq_true _
        have HD := Lib.hid hn; clear hn
        go_wp2_with fail
        go_ret
        exact ⟨ret_val (by rw [HS.out, HR.out, decide_eq_true HD.out]; rfl), q, hw.out⟩
      · have t2 : ((N : Int) == n) = false := by rw [beq_eq_false_iff_ne]; exact hn
        have HD := Lib.hid hn; clear hn
        go_wp2_with fail
        go_ret
        exact ⟨ret_val (by rw [HS.out, HR.out, decide_eq_false HD.out]; rfl), q, hw.out⟩
end
section
open Go.RowKit
/-- a type whose first field is a builder, and that has no other -/
structure BT (T : TypeId) : Prop where
  lies : liesAt Tryz.prog Tryz.prog.depth T (2 / Tryz.prog.cellsOf T) 0 72 1 = true
  ne : T ≠ 5
section
variable {T : TypeId} (hT : BT T)
include hT
set_option maxHeartbeats 1000000 in
set_option maxRecDepth 100000 in
theorem bcheck_used (b : Nat) (w : World) (h0 : w.cell? ⟨b, 0, none⟩ = some (.pointer (some ⟨b, 0, none⟩))) :
    Calls Tryz.prog 66 #[.pointer (some ⟨b, 0, none⟩)] w fun e w' => e = .returned (.tuple #[]) ∧ w = w' := by
  obtain ⟨j, hj, _⟩ := Option.map_eq_some_iff.1 (show (Tryz.prog.info? 72).map (·.size) = some 2 by kernel_rfl)
  have _ := hT.ne
  go_enter Tryz.func66, Tryz.ntmps66
  go_wp2
  rw [Lib.run_neq_ptr_same w _ Tryz.underlying69 hj]
  go_wp2
  go_end0
  exact ⟨rfl, rfl⟩
set_option maxHeartbeats 1000000 in
set_option maxRecDepth 100000 in
theorem bcheck_fresh (b : Nat) (w : World) (h0 : w.cell? ⟨b, 0, none⟩ = some (.pointer none)) (hsh : w.shape? b = some (T, 2)) (hfz : w.frozen? ⟨b, 0, none⟩ = false) :
    Calls Tryz.prog 66 #[.pointer (some ⟨b, 0, none⟩)] w fun e w' => e = .returned (.tuple #[]) ∧ w.setCell ⟨b, 0, none⟩ (.pointer (some ⟨b, 0, none⟩)) = w' := by
  obtain ⟨j, hj, hjs⟩ := Option.map_eq_some_iff.1 (show (Tryz.prog.info? 72).map (·.size) = some 2 by kernel_rfl)
  have HL := Lib.hid hT.lies
  go_enter Tryz.func66, Tryz.ntmps66
  go_wp2
  rw [Lib.run_to_unsafe w ⟨b, 0, none⟩ Tryz.underlying69 Tryz.underlying201 hj (by rw [hjs]; decide) hsh (Nat.zero_lt_succ 1)]
  simp only [Result.andThen]
  rw [Oper.upon_value]
  go_wp2
  rw [run_callFunc_extern Tryz.func96 (by kernel_rfl) (by kernel_rfl) (by kernel_rfl) (e := Extern.AbiNoEscape.same) (by kernel_rfl)]
  rw [Lib.run_noEscape]
  simp only [Result.andThen]
  rw [Oper.upon_value]
  go_wp2
  rw [Lib.run_from_unsafe w ⟨b, 0, none⟩ Tryz.underlying201 Tryz.underlying69 hj hsh HL.out]
  simp only [Result.andThen]
  rw [Oper.upon_value]
  go_wp2
  go_end0
  exact ⟨rfl, rfl⟩
theorem bcheck_any (B b : Nat) (bs : List Value) (w : World) (h : Lib.IsBuilderF T 5 B b bs w) :
    Calls Tryz.prog 66 #[.pointer (some ⟨b, 0, none⟩)] w fun e w' => e = .returned (.tuple #[]) ∧ (Lib.BuilderAtF T 5 B b (.pointer (some ⟨b, 0, none⟩)) bs w' ∧ Below B w w' ∧ Lib.OthersKept 5 (some b) w w') := by
  rcases h with h | h
  · refine (bcheck_fresh hT b w h.cell0 h.shape h.frozen0).mono ?_
    rintro e w' ⟨rfl, rfl⟩
    exact ⟨rfl, h.used _, (Below.refl B w).setCell (p := ⟨b, 0, none⟩) h.1 _, (Lib.OthersKept.refl _ _ w).setCell ⟨b, 0, none⟩ rfl _⟩
  · refine (bcheck_used hT b w h.cell0).mono ?_
    rintro e w' ⟨rfl, rfl⟩
    exact ⟨rfl, h, Below.refl B _, Lib.OthersKept.refl _ _ _⟩
set_option maxHeartbeats 2000000 in
set_option maxRecDepth 100000 in
theorem bbyte_any (B b : Nat) (bs : List Value) (c : Int) (w : World) (h : Lib.IsBuilderF T 5 B b bs w) (hlen : bs.length + 1 ≤ 140737488355328) (hBw : B ≤ w.heap.size) :
    Calls Tryz.prog 69 #[.pointer (some ⟨b, 0, none⟩), .int .u8 c] w fun e w' => e = .returned .nilIface ∧ (Lib.BuilderAtF T 5 B b (.pointer (some ⟨b, 0, none⟩)) (bs ++ [.int .u8 c]) w' ∧ Below B w w' ∧ Lib.OthersKept 5 (some b) w w') := by
  obtain ⟨i0, hi, hz0, hz1, hz2⟩ := Go.info_parts (show (Tryz.prog.info? 5).map (fun i => (i.zero, i.size, i.bytes)) = some (some (.int .u8 0), 1, 1) by kernel_rfl)
  have HC := Lib.hid (bcheck_any hT B b bs)
  have HN := Lib.hid hT.ne
  go_enter Tryz.func69, Tryz.ntmps69
  go_wp2_with fail
  refine (HC.out _ h).mono ?_
  rintro e w1 ⟨rfl, h1, hb1, hk1⟩
  obtain ⟨hB, v, hbk, hown, hne⟩ := h1
  have c0 : w1.cell? ⟨b, 0, none⟩ = some (.pointer (some ⟨b, 0, none⟩)) := by rw [Lib.cell_of_heap hbk]; rfl
  have c1 : w1.cell? ⟨b, 1, none⟩ = some v := by rw [Lib.cell_of_heap hbk]; rfl
  go_wp2_with (at_builtin; refine wpList_append_ownF _ rfl _ _ 70 rfl B 5 i0 (.int .u8 0) 1 1 Tryz.underlying70 hi hz0 hz1 hz2 rfl (by decide) _ _ _ rfl (hown.alloc _) ⟨w1.heap.size, 0, none⟩ 1 1 [.int .u8 c] rfl rfl ?c1 ?c2 ?c3 ?c4 ?c5 ?_)
  case c1 =>
    intro j u hj
    match j, hj with
    | 0, hj => simp at hj; subst hj; simp [Addr.add]
  case c2 => intro u hu; simp at hu; subst hu; rfl
  case c3 => unfold maxLen; omega
  case c4 => omega
  case c5 => have := hb1.size; simp; omega
  intro v' w2 hown' hgrow _
  have hlt : b < w1.heap.size := by
    rcases Nat.lt_or_ge b w1.heap.size with h' | h'
    · exact h'
    · simp [Array.getElem?_eq_none h'] at hbk
  have hb2 : w2.heap[b]? = some (.cells #[.pointer (some ⟨b, 0, none⟩), v] T (0, 0)) := by
    rw [hgrow.block b (by simp; omega) (fun e => hne e.symm), Lib.alloc_old w1 _ b hlt]
    exact hbk
  have d0 : w2.cell? ⟨b, 0, none⟩ = some (.pointer (some ⟨b, 0, none⟩)) := by rw [Lib.cell_of_heap hb2]; rfl
  have d1 : w2.cell? ⟨b, 1, none⟩ = some v := by rw [Lib.cell_of_heap hb2]; rfl
  have f1 : w2.frozen? ⟨b, 1, none⟩ = false := Lib.frozen_of_heap hb2 1
  obtain ⟨g, cap, rfl⟩ : ∃ g cap, v' = .slice (some ⟨g, 0, none⟩) (bs.length + 1) cap := by
    rcases hown'.2 with ⟨_, h0⟩ | ⟨g, cap, cur, fz, hv, _⟩
    · omega
    · exact ⟨g, cap, hv⟩
  go_wp2
  go_ret
  refine ⟨rfl, ?_, ?_, ((hk1.alloc _).grown hgrow (Lib.ownsRowF_kind (hown.alloc _))).setCell ⟨b, 1, none⟩ rfl _⟩
  · exact Lib.BuilderAtF.put (T := T) (e := 5) hB hb2 (bs' := bs ++ [.int .u8 c]) (by simpa using hown') HN.out
  · exact ((hb1.alloc (by have := hb1.size; omega) _).grown hgrow (by have := hb1.size; simp; omega) (fun k hk => (hown.lt k hk).1)).setCell (p := ⟨b, 1, none⟩) hB _
set_option maxHeartbeats 2000000 in
set_option maxRecDepth 100000 in
theorem bstring_any (B b : Nat) (bs : List Value) (s : ByteArray) (w : World) (h : Lib.IsBuilderF T 5 B b bs w) (hlen : bs.length + s.size ≤ 140737488355328) (hBw : B ≤ w.heap.size) :
    Calls Tryz.prog 37 #[.pointer (some ⟨b, 0, none⟩), .string s] w fun e w' => e = .returned (.tuple #[.int .i64 s.size, .nilIface]) ∧ (Lib.BuilderAtF T 5 B b (.pointer (some ⟨b, 0, none⟩)) (bs ++ Lib.strCells s) w' ∧ Below B w w' ∧ Lib.OthersKept 5 (some b) w w') := by
  obtain ⟨i0, hi, hz0, hz1, hz2⟩ := Go.info_parts (show (Tryz.prog.info? 5).map (fun i => (i.zero, i.size, i.bytes)) = some (some (.int .u8 0), 1, 1) by kernel_rfl)
  have HC := Lib.hid (bcheck_any hT B b bs)
  have HN := Lib.hid hT.ne
  go_enter Tryz.func37, Tryz.ntmps37
  go_wp2_with fail
  refine (HC.out _ h).mono ?_
  rintro e w1 ⟨rfl, h1, hb1, hk1⟩
  obtain ⟨hB, v, hbk, hown, hne⟩ := h1
  have c0 : w1.cell? ⟨b, 0, none⟩ = some (.pointer (some ⟨b, 0, none⟩)) := by rw [Lib.cell_of_heap hbk]; rfl
  have c1 : w1.cell? ⟨b, 1, none⟩ = some v := by rw [Lib.cell_of_heap hbk]; rfl
  go_wp2_with (at_builtin; refine Lib.wpList_append_own_stringF _ rfl _ _ 70 9 rfl B 5 i0 Tryz.underlying70 Tryz.underlying9 hi hz0 hz1 hz2 _ _ _ rfl hown s rfl ?c3 ?c4 ?c5 ?_)
  case c3 => unfold maxLen; omega
  case c4 => omega
  case c5 => have := hb1.size; omega
  intro v' w2 hown' hgrow _
  have hlt : b < w1.heap.size := by
    rcases Nat.lt_or_ge b w1.heap.size with h' | h'
    · exact h'
    · simp [Array.getElem?_eq_none h'] at hbk
  have hb2 : w2.heap[b]? = some (.cells #[.pointer (some ⟨b, 0, none⟩), v] T (0, 0)) := by
    rw [hgrow.block b hlt (fun e => hne e.symm)]
    exact hbk
  have d0 : w2.cell? ⟨b, 0, none⟩ = some (.pointer (some ⟨b, 0, none⟩)) := by rw [Lib.cell_of_heap hb2]; rfl
  have d1 : w2.cell? ⟨b, 1, none⟩ = some v := by rw [Lib.cell_of_heap hb2]; rfl
  have f1 : w2.frozen? ⟨b, 1, none⟩ = false := Lib.frozen_of_heap hb2 1
  obtain ⟨ao, n', cap, rfl⟩ : ∃ ao n' cap, v' = .slice ao n' cap := by
    rcases hown'.2 with ⟨hv, _⟩ | ⟨g, cap, cur, fz, hv, _⟩
    · exact ⟨_, _, _, hv⟩
    · exact ⟨_, _, _, hv⟩
  go_wp2
  go_ret2
  refine ⟨rfl, ?_, ?_, (hk1.grown hgrow (Lib.ownsRowF_kind hown)).setCell ⟨b, 1, none⟩ rfl _⟩
  · exact Lib.BuilderAtF.put (T := T) (e := 5) hB hb2 (bs' := bs ++ Lib.strCells s) (by simpa [Lib.strCells_length] using hown') HN.out
  · exact (hb1.grown hgrow (by have := hb1.size; omega) (fun k hk => (hown.lt k hk).1)).setCell (p := ⟨b, 1, none⟩) hB _
set_option maxHeartbeats 2000000 in
set_option maxRecDepth 100000 in
theorem btext_any (B b : Nat) (l : List UInt8) (w : World) (h : Lib.IsBuilderF T 5 B b (Lib.byteCells l) w) (hBw : B ≤ w.heap.size) :
    Calls Tryz.prog 19 #[.pointer (some ⟨b, 0, none⟩)] w fun e w' => e = .returned (.string ⟨l.toArray⟩) ∧ Below B w w' := by
  have _ := hT.ne
  obtain ⟨p, hAt⟩ : ∃ p, Lib.BuilderAtF T 5 B b p (Lib.byteCells l) w := by
    rcases h with h | h <;> exact ⟨_, h⟩
  have hlt := hAt.lt
  obtain ⟨hB, v, hbk, hown, hne⟩ := hAt
  rw [Lib.byteCells_length] at hown
  rcases hown.2 with ⟨rfl, hl⟩ | ⟨g, cap, cur, fz, rfl, hbg, hg, hfz, hnc, hcm, hcs, htake⟩
  · obtain rfl : l = [] := List.length_eq_zero_iff.1 hl
    have c1 : w.cell? ⟨b, 1, none⟩ = some (.slice none 0 0) := by rw [Lib.cell_of_heap hbk]; rfl
    have hUS : ∀ (W : World) (q : Option Addr), (Builtin.unsafeString_ #[109, 3] 9 #[.pointer q, .int .i64 0]).run Tryz.prog W = .ok (.string .empty) W := fun W q => Lib.run_unsafeString_none W _ _ _ q
    have hSD : ∀ W : World, (Builtin.unsafeSliceData_ #[70] 109 #[.slice none 0 0]).run Tryz.prog W = .ok (.pointer none) W := fun _ => rfl
    clear hown hne hbk
    go_enter Tryz.func19, Tryz.ntmps19
    go_wp2
    go_region
    all_goals (go_wp2; go_ret; exact ⟨rfl, Below.drew (Below.refl B w)⟩)
  · by_cases h0 : l = []
    · subst h0
      have hUS : ∀ (W : World) (q : Option Addr), (Builtin.unsafeString_ #[109, 3] 9 #[.pointer q, .int .i64 0]).run Tryz.prog W = .ok (.string .empty) W := fun W q => Lib.run_unsafeString_none W _ _ _ q
      by_cases hc0 : cap = 0
      · subst hc0
        have c1 : w.drew.cell? ⟨b, 1, none⟩ = some (.slice (some ⟨g, 0, none⟩) 0 0) := by
          have : w.drew.heap[b]? = some (.cells #[p, .slice (some ⟨g, 0, none⟩) 0 0] T (0, 0)) := hbk
          rw [Lib.cell_of_heap this]; rfl
        have hSD : (Builtin.unsafeSliceData_ #[70] 109 #[.slice (some ⟨g, 0, none⟩) 0 0]).run Tryz.prog w.drew = .ok (.pointer (some ⟨w.drew.heap.size, 0, none⟩)) (w.drew.alloc (.view ⟨g, 0, none⟩ 5)) :=
          Lib.run_unsafeSliceData_zero w.drew _ _ 5 Tryz.underlying109 ⟨g, 0, none⟩ 0 (5, cur.size) (by have hg' : w.drew.heap[g]? = some (.cells cur 5 fz) := hg; simp [World.shape?, hg'])
        have c2 : (w.drew.alloc (.view ⟨g, 0, none⟩ 5)).cell? ⟨b, 1, none⟩ = some (.slice (some ⟨g, 0, none⟩) 0 0) := by
          have : (w.drew.alloc (.view ⟨g, 0, none⟩ 5)).heap[b]? = _ := (Lib.alloc_old w.drew _ b hlt).trans hbk
          rw [Lib.cell_of_heap this]; rfl
        have c3 : (w.alloc (.view ⟨g, 0, none⟩ 5)).drew.cell? ⟨b, 1, none⟩ = some (.slice (some ⟨g, 0, none⟩) 0 0) := c2
        have c0 : w.cell? ⟨b, 1, none⟩ = some (.slice (some ⟨g, 0, none⟩) 0 0) := c1
        clear hown hne hbk htake hcs hcm hnc hfz hg
        go_enter Tryz.func19, Tryz.ntmps19
        go_wp2
        go_region
        all_goals (go_wp2; go_ret; exact ⟨rfl, (Below.drew (Below.refl B w)).alloc hBw _⟩)
      · have c1 : w.cell? ⟨b, 1, none⟩ = some (.slice (some ⟨g, 0, none⟩) 0 cap) := by rw [Lib.cell_of_heap hbk]; rfl
        have hSD : ∀ W : World, (Builtin.unsafeSliceData_ #[70] 109 #[.slice (some ⟨g, 0, none⟩) 0 cap]).run Tryz.prog W = .ok (.pointer (some ⟨g, 0, none⟩)) W := fun _ => Lib.run_unsafeSliceData_row _ _ _ _ _ _ hc0
        clear hown hne hbk htake hcs hcm hnc hfz hg hc0
        go_enter Tryz.func19, Tryz.ntmps19
        go_wp2
        go_region
        all_goals (go_wp2; go_ret; exact ⟨rfl, Below.drew (Below.refl B w)⟩)
    · have hl0 : l.length ≠ 0 := by simpa using h0
      have c1 : w.drew.cell? ⟨b, 1, none⟩ = some (.slice (some ⟨g, 0, none⟩) l.length cap) := by
        have : w.drew.heap[b]? = some (.cells #[p, .slice (some ⟨g, 0, none⟩) l.length cap] T (0, 0)) := hbk
        rw [Lib.cell_of_heap this]; rfl
      have hSD : (Builtin.unsafeSliceData_ #[70] 109 #[.slice (some ⟨g, 0, none⟩) l.length cap]).run Tryz.prog w.drew = .ok (.pointer (some ⟨g, 0, none⟩)) w.drew :=
        Lib.run_unsafeSliceData_row _ _ _ _ _ _ (by omega)
      have hUS : (Builtin.unsafeString_ #[109, 3] 9 #[.pointer (some ⟨g, 0, none⟩), .int .i64 l.length]).run Tryz.prog w.drew = .ok (.string ⟨l.toArray⟩) (w.drew.freeze ⟨g, 0, none⟩ l.length) := by
        refine Lib.run_unsafeString_row w.drew 109 3 9 5 Tryz.underlying109 (by kernel_rfl) g cur.size (by have hg' : w.drew.heap[g]? = some (.cells cur 5 fz) := hg; simp [World.shape?, hg']) l h0 (by omega) (by unfold maxLen at hcm; omega) ?_
        intro j x hx
        have := hown.cells (g := g) rfl j (.int .u8 x.toNat) (by simp [Lib.byteCells, hx])
        exact this
      clear hown hne hbk htake hcs hcm hnc hfz hg
      go_enter Tryz.func19, Tryz.ntmps19
      go_wp2
      go_region
      all_goals (go_wp2; go_ret; exact ⟨rfl, Lib.below_freeze (Below.drew (Below.refl B w)) (p := ⟨g, 0, none⟩) hbg _⟩)
end
/-- a writer of the call's own, of such a type -/
def Bld (T : TypeId) (B b : Nat) (o : List UInt8) (w : World) : Prop := B ≤ w.heap.size ∧ Lib.IsBuilderF T 5 B b (Lib.byteCells o) w
/-- whatever is no row of bytes, and not block b, is as it was; nor is anything that lay below B another -/
def Wrote (B b : Nat) (w w' : World) : Prop := Below B w w' ∧ Lib.OthersKept 5 (some b) w w'
theorem Wrote.refl (B b : Nat) (w : World) : Wrote B b w w := ⟨Below.refl _ _, Lib.OthersKept.refl _ _ _⟩
theorem Wrote.trans {B b : Nat} {u w x : World} (h : Wrote B b u w) (k : Wrote B b w x) : Wrote B b u x := ⟨h.1.trans k.1, h.2.trans k.2⟩
theorem Wrote.alloc {B b : Nat} {u w : World} (h : Wrote B b u w) (hB : B ≤ w.heap.size) (o : Obj) : Wrote B b u (w.alloc o) := ⟨h.1.alloc hB o, h.2.alloc o⟩
theorem Wrote.drew {B b : Nat} {u w : World} (h : Wrote B b u w) : Wrote B b u w.drew := ⟨h.1.drew, h.2.drew⟩
theorem Wrote.below {B b : Nat} {u w x : World} (h : Wrote B b u w) (hB : B ≤ w.heap.size) (k : Below w.heap.size w x) : Wrote B b u x :=
  ⟨h.1.trans (k.mono hB), h.2.trans fun i _ hi _ _ => (k.block i (lt_of_block hi)).trans hi⟩
theorem Wrote.size {B b : Nat} {u w : World} (h : Wrote B b u w) : u.heap.size ≤ w.heap.size := h.1.size
theorem Wrote.block {B b k : Nat} {u w : World} {cs : Array Value} {T : TypeId} {fz : Nat × Nat} (h : Wrote B b u w) (hk : u.heap[k]? = some (.cells cs T fz)) (hb : k ≠ b) (hT : T ≠ 5) : w.heap[k]? = some (.cells cs T fz) :=
  h.2 k _ hk (fun e => hb (Option.some.inj e)) (fun c f e => hT (by injection e))
theorem Bld.fresh (T : TypeId) (w : World) : Bld T w.heap.size w.heap.size [] (w.alloc (.cells #[.pointer none, .slice none 0 0] T)) :=
  ⟨by simp, .inl ⟨Nat.le_refl _, .slice none 0 0, heap_alloc_new w _, ⟨rfl, .inl ⟨rfl, rfl⟩⟩, by simp [Value.ownBlock]⟩⟩
theorem Bld.below {T : TypeId} {B b : Nat} {o : List UInt8} {w w' : World} (h : Bld T B b o w) (hb : Below w.heap.size w w') : Bld T B b o w' := by
  obtain ⟨hB, h⟩ := h
  refine ⟨Nat.le_trans hB hb.size, ?_⟩
  have kept : ∀ {v : Value} {n : Nat} {bs : List Value}, w.ownsRowF B 5 1 v n bs → w'.ownsRowF B 5 1 v n bs := fun h =>
    h.kept (row := none) ⟨hb.os, hb.tape, hb.output, hb.size, fun k hk _ => hb.block k hk⟩ (Classical.em _)
  rcases h with h | h <;> obtain ⟨hb0, v, hbk, hown, hn⟩ := h
  · exact .inl ⟨hb0, v, (hb.block _ (lt_of_block hbk)).trans hbk, kept hown, hn⟩
  · exact .inr ⟨hb0, v, (hb.block _ (lt_of_block hbk)).trans hbk, kept hown, hn⟩
theorem Bld.alloc {T : TypeId} {B b : Nat} {o : List UInt8} {w : World} (h : Bld T B b o w) (x : Obj) : Bld T B b o (w.alloc x) := h.below ((Below.refl _ _).alloc (Nat.le_refl _) _)
theorem Bld.drew {T : TypeId} {B b : Nat} {o : List UInt8} {w : World} (h : Bld T B b o w) : Bld T B b o w.drew := h
theorem Bld.lt {T : TypeId} {B b : Nat} {o : List UInt8} {w : World} (h : Bld T B b o w) : b < w.heap.size ∧ B ≤ b := by
  rcases h.2 with h | h <;> exact ⟨h.lt, h.1⟩
theorem Bld.write {T : TypeId} (hT : BT T) {B b : Nat} {o : List UInt8} {w : World} (h : Bld T B b o w) (hlen : o.length ≤ 100000000) (c : UInt8) :
    Calls Tryz.prog 69 #[.pointer (some ⟨b, 0, none⟩), .int .u8 c.toNat] w fun e w' => e = .returned .nilIface ∧ Bld T B b (o ++ [c]) w' ∧ Wrote B b w w' :=
  (bbyte_any hT B b (Lib.byteCells o) c.toNat w h.2 (by rw [Lib.byteCells_length]; omega) h.1).mono fun _ _ ⟨he, h1, h2, h3⟩ => ⟨he, ⟨Nat.le_trans h.1 h2.size, .inr (by rw [Lib.byteCells_append]; exact h1)⟩, h2, h3⟩
theorem Bld.writeS {T : TypeId} (hT : BT T) {B b : Nat} {o : List UInt8} {w : World} (h : Bld T B b o w) (l : List UInt8) (hlen : o.length + l.length ≤ 100000000) :
    Calls Tryz.prog 37 #[.pointer (some ⟨b, 0, none⟩), .string ⟨l.toArray⟩] w fun e w' => e = .returned (.tuple #[.int .i64 l.length, .nilIface]) ∧ Bld T B b (o ++ l) w' ∧ Wrote B b w w' :=
  (bstring_any hT B b (Lib.byteCells o) ⟨l.toArray⟩ w h.2 (by rw [Lib.byteCells_length]; show o.length + l.toArray.size ≤ _; simp; omega) h.1).mono fun _ _ ⟨he, h1, h2, h3⟩ => ⟨by rw [he]; rfl, ⟨Nat.le_trans h.1 h2.size, .inr (by rw [Lib.byteCells_append]; exact h1)⟩, h2, h3⟩
theorem Bld.text {T : TypeId} (hT : BT T) {B b : Nat} {o : List UInt8} {w : World} (h : Bld T B b o w) :
    Calls Tryz.prog 19 #[.pointer (some ⟨b, 0, none⟩)] w fun e w' => e = .returned (.string ⟨o.toArray⟩) ∧ Below B w w' :=
  btext_any hT B b o w h.2 h.1
end
section
open Go.RowKit
theorem bt_codec : BT 204 := ⟨by kernel_rfl, by decide⟩
theorem or_small : ∀ k : Nat, k < 256 → bits .or .u8 (k : Int) 128 = ((k % 128 + 128 : Nat) : Int) := by decide +kernel
theorem or_128 (n : Nat) : bits .or .u8 ((n : Int) % 256) 128 = ((UInt8.ofNat (n % 128 + 128)).toNat : Int) := by
  have := or_small (n % 256) (by omega)
  rw [show ((n % 256 : Nat) : Int) = (n : Int) % 256 from by omega] at this
  rw [this]
  simp [UInt8.toNat_ofNat']
  omega
theorem u8_mod (n : Nat) : (n : Int) % 256 = ((UInt8.ofNat n).toNat : Int) := by
  simp [UInt8.toNat_ofNat']
theorem uintB_big {f n : Nat} (h : 128 ≤ n) : uintB (f + 1) n = UInt8.ofNat (n % 128 + 128) :: uintB f (n / 128) := by
  rw [uintB, if_neg (by omega)]
theorem uintB_small {f n : Nat} (h : n < 128) : uintB (f + 1) n = [UInt8.ofNat n] := by
  rw [uintB, if_pos h]
set_option maxRecDepth 100000 in
set_option maxHeartbeats 2000000 in
theorem cuint_any (n : Nat) (hn : n < 18446744073709551616) (B b : Nat) (o : List UInt8) (ho : o.length ≤ 10000000) (w : World) (hb : Bld 204 B b o w) :
    Calls Tryz.prog 97 #[.pointer (some ⟨b, 0, none⟩), .int .u64 (n : Int)] w fun e w' => e = .returned (.tuple #[]) ∧ Bld 204 B b (o ++ uintS n) w' ∧ Wrote B b w w' := by
  have HW := Lib.hid (fun (o : List UInt8) (w : World) (h : Bld 204 B b o w) (hl : o.length ≤ 100000000) (c : UInt8) => h.write bt_codec hl c)
  have HO := Lib.hid (fun k => or_128 k)
  go_enter Tryz.func97, Tryz.ntmps97
  go_wp2_with fail
  go_loopw [1] (fun v wr => ∃ (m f : Nat) (q : List UInt8), v = .int .u64 (m : Int) ∧ m < 2 * 128 ^ f ∧ f ≤ 9 ∧ q.length + f = o.length + 9 ∧ Hid (o ++ uintS n = q ++ uintB (f + 1) m) ∧ Bld 204 B b q wr ∧ Wrote B b w wr) (fun v _ => (intOf v).toNat)
  case atStart => exact ⟨n, 9, o, rfl, by simpa using hn, by omega, rfl, rfl, hb, Wrote.refl _ _ _⟩
  case round =>
    obtain ⟨m, f, q, rfl, hm, hf, hq, hO, hbd, hwr⟩ := hrel
    by_cases h1 : 128 ≤ m
    · have t1 : decide ((128 : Int) ≤ (m : Int)) = true := by simp; omega
      obtain ⟨f, rfl⟩ : ∃ g, f = g + 1 := ⟨f - 1, by
        rcases f with _ | f
        · simp at hm; omega
        · omega⟩
      have hm2 : m / 128 < 2 * 128 ^ f := by rw [Nat.pow_succ] at hm; omega
      have HS := Lib.hid (uintB_big (f := f + 1) h1)
      have HC := Lib.hid (HW.out q wr hbd (by omega) (UInt8.ofNat (m % 128 + 128)))
      have HO' := Lib.hid (HO.out m)
      clear hm
      go_wp2_with fail
      rw [HO'.out]
      refine (HC.out).mono ?_; rintro e w1 ⟨rfl, hb1, hw1⟩
      go_wp2_with fail
      go_roundw
      case rel => exact ⟨m / 128, f, q ++ [UInt8.ofNat (m % 128 + 128)], by go_num, hm2, by omega, by simp; omega, by show _ = _; rw [hO.out, HS.out, List.append_assoc]; rfl, hb1, hwr.trans hw1⟩
      case measure => simp [intOf]; omega
    · have t1 : decide ((128 : Int) ≤ (m : Int)) = false := by simp; omega
      have HS := Lib.hid (uintB_small (f := f) (show m < 128 by omega))
      have HC := Lib.hid (HW.out q wr hbd (by omega) (UInt8.ofNat m))
      have HO' := Lib.hid (show (m : Int) = ((UInt8.ofNat m).toNat : Int) from by rw [← u8_mod]; omega)
      go_wp2_with fail
      rw [show Value.int .u8 (m : Int) = .int .u8 ((UInt8.ofNat m).toNat : Int) from congrArg _ HO'.out]
      refine (HC.out).mono ?_; rintro e w1 ⟨rfl, hb1, hw1⟩
      go_wp2_with fail
      go_end0
      exact ⟨rfl, by rw [hO.out, HS.out]; exact hb1, hwr.trans hw1⟩
/-- what a call hands back that makes memory of its own alone -/
def Gives (v : Value) (w : World) (e : Ending) (w' : World) : Prop := e = .returned v ∧ Below w.heap.size w w'
set_option maxRecDepth 100000 in
set_option maxHeartbeats 2000000 in
theorem cUint_any (n : Nat) (hn : n < 18446744073709551616) (w : World) :
    Calls Tryz.prog 67 #[.int .u64 (n : Int)] w (Gives (.string ⟨(uintS n).toArray⟩) w) := by
  have HW := Lib.hid (fun (B b : Nat) (w : World) (h : Bld 204 B b [] w) => cuint_any n hn B b [] (by simp) w h)
  have HT := Lib.hid (fun (B b : Nat) (o : List UInt8) (w : World) (h : Bld 204 B b o w) => h.text bt_codec)
  have hF := Bld.fresh 204 w
  have hB0 : Below w.heap.size w (w.alloc (.cells #[.pointer none, .slice none 0 0] 204)) := (Below.refl _ _).alloc (Nat.le_refl _) _
  go_enter Tryz.func67, Tryz.ntmps67
  go_wp2_with fail
  refine (HW.out _ _ _ hF).mono ?_; rintro e w1 ⟨rfl, hb1, hw1⟩
  go_wp2_with fail
  refine (HT.out _ _ _ _ hb1).mono ?_; rintro e w2 ⟨rfl, hb2⟩
  go_wp2_with fail
  go_ret
  exact ⟨rfl, (hB0.trans hw1.1).trans hb2⟩
end
section
open Go.RowKit
theorem below_bytes (w : World) (e : TypeId) (s : ByteArray) : Below w.heap.size w (Lib.bytesWorld w e s) :=
  Lib.below_freeze (((Below.refl _ _).drew).alloc (Nat.le_refl _) _) (p := ⟨w.heap.size, _, none⟩) (Nat.le_refl _) 1
set_option maxRecDepth 100000 in
set_option maxHeartbeats 8000000 in
theorem vname_any (s : ByteArray) (w : World) : Calls Tryz.prog 179 #[.string s] w (Gives (.bool (nmB s.data.toList)) w) := by
  have hl : s.data.toList.length = s.size := by simp
  have HL := Lib.hid hl; clear hl
  by_cases h1 : s.size < 1
  · have hs0 : s.toList = [] := by rw [ByteArray.toList_eq]; exact List.length_eq_zero_iff.1 (by rw [HL.out]; omega)
    have HX := Lib.hid (nmB_short (l := s.data.toList) (by rw [HL.out]; omega))
    clear h1
    go_enter Tryz.func179, Tryz.ntmps179
    go_wp2_with fail
    go_ret
    exact ⟨ret_val (by rw [HX.out]; rfl), Below.refl _ _⟩
  · have hs1 : s.toList.isEmpty = false := by
      rw [ByteArray.toList_eq]
      cases hd : s.data.toList with
      | nil => have := HL.out; rw [hd] at this; simp at this; omega
      | cons x y => rfl
    have hs2 : ¬ s.toList = [] := by intro h; rw [h] at hs1; cases hs1
    by_cases h2 : 30 < s.size
    · have t2 : decide ((30 : Int) < (s.size : Int)) = true := by simp; omega
      have HX := Lib.hid (nmB_short (l := s.data.toList) (by rw [HL.out]; omega))
      go_enter Tryz.func179, Tryz.ntmps179
      go_wp2_with fail
      go_ret
      exact ⟨ret_val (by rw [HX.out]; rfl), Below.refl _ _⟩
    · have t2 : decide ((30 : Int) < (s.size : Int)) = false := by simp; omega
      have t2' : ¬ 30 < s.size := h2
      have hcv := fun w => Lib.run_convert_string_bytes (P := Tryz.prog) w 9 70 5 s Tryz.underlying9 Tryz.underlying70 Tryz.underlying5
      have hbw := below_bytes w 5 s
      have hcell := fun j hj => Lib.bytesWorld_cell w 5 s j hj
      have HCell := Lib.hid hcell; have HBw := Lib.hid hbw
      clear hcell hbw
      go_enter Tryz.func179, Tryz.ntmps179
      go_wp2_with fail
      generalize Lib.bytesWorld w 5 s = W0 at *
      generalize grownCap w s.size 0 5 = gc at *
      go_loop [15] (fun kv => ∃ k : Nat, k ≤ s.size ∧ kv = .int .i64 k ∧ NmTo s.data.toList k) (fun kv => s.size - (intOf kv).toNat)
      case atStart => exact ⟨0, Nat.zero_le _, rfl, NmTo.zero _⟩
      case round =>
        obtain ⟨k, hk, rfl, hnm⟩ := hrel
        by_cases hlt : k < s.size
        · have t0 : decide ((k : Int) < (s.size : Int)) = true := by simp; omega
          have hcl := HCell.out k hlt
          have b1 : (0 : Int) ≤ (k : Int) := by omega
          have b2 : (k : Int) < (s.size : Int) := by omega
          have hg0 : s.data.toList.getD k 0 = s[k]'hlt := by simp [List.getD, hlt]; rfl
          have HStep := Lib.hid (fun hn h0 => hnm.step (by rw [HL.out]; exact hlt) hn h0)
          have HNo := Lib.hid (fun hn => nmB_no (l := s.data.toList) (k := k) (by rw [HL.out]; exact hlt) hn)
          rw [hg0] at HStep HNo hcl
          have hN0 : isLet (s[k]'hlt) = false → k = 0 → nmB s.data.toList = false := by
            intro h hk0
            refine nmB_no0 ?_
            rw [← hg0] at h
            rw [hk0] at h
            exact h
          have HNo0 := Lib.hid hN0
          clear hnm hg0 hN0
          have hLt : isLet (s[k]'hlt) = (decide ((97 : Int) ≤ ((s[k]'hlt).toNat : Int)) && decide (((s[k]'hlt).toNat : Int) ≤ 122)) := by
            unfold isLet
            rw [Bool.eq_iff_iff]; simp; omega
          have hDg : isDig (s[k]'hlt) = (decide ((48 : Int) ≤ ((s[k]'hlt).toNat : Int)) && decide (((s[k]'hlt).toNat : Int) ≤ 57)) := by
            show decide (48 ≤ (s[k]'hlt).toNat ∧ (s[k]'hlt).toNat ≤ 57) = _
            rw [Bool.eq_iff_iff]; simp; omega
          have hNm : isNm (s[k]'hlt) = (isLet (s[k]'hlt) || isDig (s[k]'hlt) || ((s[k]'hlt).toNat : Int) == 95) := by unfold isNm; rw [u8_beq (s[k]'hlt) 95]; rfl
          rw [hLt, hDg] at hNm
          have HNm := Lib.hid hNm
          have HLt := Lib.hid hLt
          clear hNm hLt hDg
          cases a1 : decide ((97 : Int) ≤ ((s[k]'hlt).toNat : Int)) <;> cases a2 : decide (((s[k]'hlt).toNat : Int) ≤ 122)
          case true.true =>
            rw [a1, a2] at HLt HNm
            have HY := Lib.hid (HStep.out (by rw [HNm.out]; rfl) (.inr (by rw [HLt.out]; rfl)))
            go_wp2_with fail
            go_round
            case rel => exact ⟨k + 1, by omega, by go_num, HY.out⟩
            case measure => simp [intOf]; omega
          all_goals
            rw [a1, a2] at HLt HNm
            by_cases hk0 : k = 0
            · have HX := Lib.hid (HNo0.out (by rw [HLt.out]; rfl) hk0)
              have tk : decide ((0 : Int) < (k : Int)) = false := by simp; omega
              have tkn : ¬ 0 < k := by omega
              clear hk0
              go_wp2_with fail
              go_ret
              exact ⟨ret_val (by rw [HX.out]; rfl), HBw.out⟩
            · have tk : decide ((0 : Int) < (k : Int)) = true := by simp; omega
              have tkn : 0 < k := by omega
              cases a3 : decide ((48 : Int) ≤ ((s[k]'hlt).toNat : Int)) <;> cases a4 : decide (((s[k]'hlt).toNat : Int) ≤ 57)
              case neg.true.true =>
                rw [a3, a4] at HNm
                have HY := Lib.hid (HStep.out (by rw [HNm.out]; rfl) (.inl hk0))
                cases a5 : (((s[k]'hlt).toNat : Int) == 95)
                all_goals
                  go_wp2_with fail
                  go_round
                  case rel => exact ⟨k + 1, by omega, by go_num, HY.out⟩
                  case measure => simp [intOf]; omega
              all_goals
                rw [a3, a4] at HNm
                cases a5 : (((s[k]'hlt).toNat : Int) == 95)
                · have a6 : (((s[k]'hlt).toNat : Int) != 95) = true := by rw [bne, a5]; rfl
                  rw [a5] at HNm
                  have HX := Lib.hid (HNo.out (by rw [HNm.out]; rfl))
                  go_wp2_with fail
                  go_ret
                  exact ⟨ret_val (by rw [HX.out]; rfl), HBw.out⟩
                · have a6 : (((s[k]'hlt).toNat : Int) != 95) = false := by rw [bne, a5]; rfl
                  rw [a5] at HNm
                  have HY := Lib.hid (HStep.out (by rw [HNm.out]; rfl) (.inl hk0))
                  go_wp2_with fail
                  go_round
                  case rel => exact ⟨k + 1, by omega, by go_num, HY.out⟩
                  case measure => simp [intOf]; omega
        · have t0 : decide ((k : Int) < (s.size : Int)) = false := by simp; omega
          have hks : k = s.size := by omega
          have t0' : ¬ k < s.size := hlt
          rw [hks, ← HL.out] at hnm
          have HX := Lib.hid (hnm.whole (by rw [HL.out]; omega) (by rw [HL.out]; omega))
          clear hks hnm
          go_wp2_with fail
          go_ret
          exact ⟨ret_val (by rw [HX.out]; rfl), HBw.out⟩
end
section
open Go.RowKit
set_option maxRecDepth 100000 in
set_option maxHeartbeats 4000000 in
theorem rising_any (l : List (List UInt8)) (v : Value) (w : World) (h : Strs w l v) : Calls Tryz.prog 161 #[v] w (Gives (.bool (risesB l)) w) := by
  obtain ⟨h1, h2, h3⟩ := h
  have h3' : ∃ p cap, v = .slice p l.length cap ∧ ∀ i, i < l.length → ∃ g off, p = some ⟨g, off, none⟩ ∧ g < w.heap.size ∧ ∀ j, j < l.length → w.cell? ⟨g, off + j, none⟩ = some (.string ⟨(l.getD j []).toArray⟩) := by
    rcases h3 with ⟨h3, p, c, hp⟩ | ⟨g, off, cap, hp, hg, hc⟩
    · subst h3
      exact ⟨p, c, hp, fun i hi => absurd hi (by simp)⟩
    · exact ⟨_, cap, hp, fun i hi => ⟨g, off, rfl, hg, hc⟩⟩
  obtain ⟨p, cap, rfl, h4⟩ := h3'
  have H4 := Lib.hid h4
  clear h3 h4 h2
  have HNo := Lib.hid (fun i hi hk => rises_no (l := l) (i := i) hi hk)
  have HYes := Lib.hid (fun h => (rises_iff l).2 h)
  generalize hN : l.length = N at *
  generalize hR : risesB l = R at *
  have HN := Lib.hid hN
  clear hN hR
  generalize hgh : w.heap.size = H at *
  have HH := Lib.hid hgh; clear hgh
  go_enter Tryz.func161, Tryz.ntmps161
  go_wp2_with fail
  go_loopw [7] (fun iv wr => ∃ i : Nat, i ≤ N ∧ iv = .int .i64 i ∧ Below H w wr ∧ Hid (∀ j, j < i → okAt l j = true)) (fun iv _ => N - (intOf iv).toNat)
  case atStart => exact ⟨0, by omega, rfl, Below.refl _ _, fun j hj => absurd hj (by omega)⟩
  case round =>
    obtain ⟨i, hi, rfl, hB, hall⟩ := hrel
    have hHw : H ≤ wr.heap.size := by have := hB.size; rw [HH.out] at this; exact this
    by_cases hlt : i < N
    · have t0 : decide ((i : Int) < (N : Int)) = true := by simp; omega
      obtain ⟨g, off, rfl, hg, hc⟩ := H4.out i hlt
      have x1 : wr.cell? ⟨g, off + i, none⟩ = some (.string ⟨(l.getD i []).toArray⟩) := (hB.cell (p := ⟨g, off + i, none⟩) hg).trans (hc i hlt)
      have hy : ∀ wx, Below wr.heap.size wr wx → wx.cell? ⟨g, off + (i - 1), none⟩ = some (.string ⟨(l.getD (i - 1) []).toArray⟩) := fun wx hx => ((hB.trans (hx.mono hHw)).cell (p := ⟨g, off + (i - 1), none⟩) hg).trans (hc (i - 1) (by omega))
      have hnm := fun w => vname_any ⟨(l.getD i []).toArray⟩ w
      rw [show (⟨(l.getD i []).toArray⟩ : ByteArray).data.toList = l.getD i [] from rfl] at hnm
      have HNm := Lib.hid hnm
      have HY2 := Lib.hid hy
      have HOk := Lib.hid (okAt.eq_def l i)
      have b1 : (0 : Int) ≤ (i : Int) := by omega
      have b2 : (i : Int) < (N : Int) := by omega
      clear hc hnm hy
      have HAll := Lib.hid (fun (h : okAt l i = true) j (hj : j < i + 1) => (show okAt l j = true from by
        rcases Nat.lt_or_ge j i with g | g
        · exact hall.out j g
        · rw [show j = i by omega]; exact h))
      have HNi := Lib.hid (HNo.out i hlt)
      generalize hA : l.getD i [] = A at *
      generalize hB' : l.getD (i - 1) [] = B at *
      clear hA hB'
      cases hb : nmB A
      · rw [hb] at HNm HOk
        have HX := Lib.hid (HNi.out (by rw [HOk.out]; rfl))
        go_wp2_with fail
        refine (HNm.out _).mono ?_; rintro e w5 ⟨rfl, hb5⟩
        go_wp2_with fail
        go_ret
        exact ⟨ret_val (by rw [HX.out]; rfl), by rw [HH.out]; exact hB.trans (hb5.mono hHw)⟩
      · rw [hb] at HNm HOk
        by_cases hi0 : i = 0
        · have t1 : decide ((0 : Int) < (i : Int)) = false := by simp; omega
          have t1' : ¬ 0 < i := by omega
          have t1n : decide (0 < i) = false := by simp; omega
          have HY := Lib.hid (HAll.out (by rw [HOk.out, decide_eq_true hi0]; rfl))
          clear hi0
          go_wp2_with fail
          refine (HNm.out _).mono ?_; rintro e w5 ⟨rfl, hb5⟩
          go_wp2_with fail
          go_roundw
          case rel => exact ⟨i + 1, by omega, by go_num, hB.trans (hb5.mono hHw), HY.out⟩
          case measure => simp [intOf]; omega
        · have t1 : decide ((0 : Int) < (i : Int)) = true := by simp; omega
          have t1p : 0 < i := by omega
          have t1n : decide (0 < i) = true := by simp; omega
          have w1 : IntKind.i64.wrap ((i : Int) - 1) = ((i - 1 : Nat) : Int) := by rw [IntKind.wrap_i64]; omega
          have w2 : (0 : Int) ≤ ((i - 1 : Nat) : Int) := by omega
          have w3 : ((i - 1 : Nat) : Int) < (N : Int) := by omega
          have e1 : (i : Int) - 1 = ((i - 1 : Nat) : Int) := by omega
          have HI := Lib.hid (decide_eq_false hi0)
          clear hi0
          cases hl : Op.bytesLess B A
          · have HX := Lib.hid (HNi.out (by rw [HOk.out, HI.out, hl]; rfl))
            go_wp2_with fail
            refine (HNm.out _).mono ?_; rintro e w5 ⟨rfl, hb5⟩
            have y1 := HY2.out _ hb5
            go_wp2_with fail
            go_ret
            exact ⟨ret_val (by rw [HX.out]; rfl), by rw [HH.out]; exact hB.trans (hb5.mono hHw)⟩
          · have HY := Lib.hid (HAll.out (by rw [HOk.out, HI.out, hl]; rfl))
            go_wp2_with fail
            refine (HNm.out _).mono ?_; rintro e w5 ⟨rfl, hb5⟩
            have y1 := HY2.out _ hb5
            go_wp2_with fail
            go_roundw
            case rel => exact ⟨i + 1, by omega, by go_num, hB.trans (hb5.mono hHw), HY.out⟩
            case measure => simp [intOf]; omega
    · have t0 : decide ((i : Int) < (N : Int)) = false := by simp; omega
      have hr := HYes.out (fun j hj => hall.out j (by omega))
      have HR := Lib.hid hr; clear hr
      go_wp2_with fail
      go_ret
      exact ⟨ret_val (by rw [HR.out]; rfl), by rw [HH.out]; exact hB⟩
end
section
open Go.RowKit
/-- all blocks that were there, but for those of l, are as they were -/
structure Fr (l : List Nat) (w w' : World) : Prop where
  os : w'.os = w.os
  tape : w'.tape = w.tape
  output : w'.output = w.output
  size : w.heap.size ≤ w'.heap.size
  block : ∀ k, k < w.heap.size → k ∉ l → w'.heap[k]? = w.heap[k]?
theorem Fr.refl (l : List Nat) (w : World) : Fr l w w := ⟨rfl, rfl, rfl, Nat.le_refl _, fun _ _ _ => rfl⟩
theorem Fr.trans {l : List Nat} {a b c : World} (h : Fr l a b) (k : Fr l b c) : Fr l a c :=
  ⟨k.os.trans h.os, k.tape.trans h.tape, k.output.trans h.output, Nat.le_trans h.size k.size, fun i hi hn => (k.block i (Nat.lt_of_lt_of_le hi h.size) hn).trans (h.block i hi hn)⟩
theorem Fr.mono {l m : List Nat} {w w' : World} (h : Fr l w w') (hlm : ∀ x ∈ l, x ∈ m) : Fr m w w' := ⟨h.os, h.tape, h.output, h.size, fun k hk hn => h.block k hk (fun hx => hn (hlm k hx))⟩
theorem Fr.of_below {l : List Nat} {w w' : World} (h : Below w.heap.size w w') : Fr l w w' := ⟨h.os, h.tape, h.output, h.size, fun k hk _ => h.block k hk⟩
theorem Fr.below {l : List Nat} {B : Nat} {w w' : World} (h : Fr l w w') (hB : B ≤ w.heap.size) (hl : ∀ x ∈ l, B ≤ x) : Below B w w' :=
  ⟨h.os, h.tape, h.output, h.size, fun k hk => h.block k (Nat.lt_of_lt_of_le hk hB) (fun hx => by have := hl k hx; omega)⟩
theorem Fr.drewN {l : List Nat} {a w : World} (h : Fr l a w) (n : Nat) : Fr l a (w.drewN n) := ⟨h.os, h.tape, h.output, h.size, h.block⟩
theorem Fr.setCell {l : List Nat} {a w : World} (h : Fr l a w) (p : Addr) (hp : p.block ∈ l) (v : Value) : Fr l a (w.setCell p v) := by
  exact h.trans ⟨rfl, rfl, rfl, by simp [World.setCell], fun k _ hn => Below.heap_setCell _ _ _ _ (fun e => hn (e ▸ hp))⟩
theorem heap_setN {w : World} {b : Nat} {cs : Array Value} {t : TypeId} (h : w.heap[b]? = some (.cells cs t (0, 0))) (i : Nat) (x : Value) : (w.setCell ⟨b, i, none⟩ x).heap[b]? = some (.cells (cs.setIfInBounds i x) t (0, 0)) := by
  have hlt := lt_of_block h
  have h' : w.heap[b] = .cells cs t (0, 0) := by simpa [Array.getElem?_eq_getElem hlt] using h
  show (w.heap.modify b _)[b]? = _
  rw [Array.getElem?_eq_getElem (by simpa using hlt), Array.getElem_modify_self, h']
  rfl
theorem Fr.drew {l : List Nat} {a w : World} (h : Fr l a w) : Fr l a w.drew := ⟨h.os, h.tape, h.output, h.size, h.block⟩
theorem Fr.alloc {l : List Nat} {a w : World} (h : Fr l a w) (o : Obj) : Fr l a (w.alloc o) :=
  h.trans ⟨rfl, rfl, rfl, by simp, fun k hk _ => Lib.alloc_old w o k hk⟩
theorem Fr.at {l : List Nat} {w w' : World} {k : Nat} {x : Obj} (h : Fr l w w') (hk : w.heap[k]? = some x) (hn : k ∉ l) : w'.heap[k]? = some x := (h.block k (Array.getElem?_eq_some_iff.1 hk).1 hn).trans hk
theorem Fr.cell {l : List Nat} {w w' : World} {k i : Nat} (h : Fr l w w') (hk : k < w.heap.size) (hn : k ∉ l) : w'.cell? ⟨k, i, none⟩ = w.cell? ⟨k, i, none⟩ := by
  have := h.block k hk hn
  unfold World.cell?
  simp only [this]
theorem undrew {w w' : World} (h : Below w.drew.heap.size w.drew w') : Below w.heap.size w w' := ⟨h.os, h.tape, h.output, h.size, h.block⟩
end
end Go.Proofs.YtnaamiecljinnaaGreat
