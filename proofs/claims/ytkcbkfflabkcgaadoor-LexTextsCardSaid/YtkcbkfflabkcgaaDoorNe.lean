/-
  The walk of the law LexTexts.
-/
import Derived.Test.YtkcbkfflabkcgaaDoorMa
import Derived.Test.YtkcbkfflabkcgaaDoorNd
import Derived.Test.YtkcbkfflabkcgaaDoorR1
import Derived.Deep.DeepCutAuto
namespace Go.Proofs.YtkcbkfflabkcgaaDoor
open Go.RowKit

theorem bytes_eta (s : ByteArray) : (⟨s.data.toList.toArray⟩ : ByteArray) = s := by
  apply ByteArray.ext; simp
theorem textB_len {b : Nat} : (textB b).length ≤ 1000 := by
  unfold textB
  by_cases hn : Fl.isNaN b = true
  · rw [hn, if_pos rfl]; decide
  · have hn' : Fl.isNaN b = false := by simpa using hn
    rw [hn']
    by_cases hi : Fl.rg b = 9218868437227405312
    · rw [if_pos hi]; cases Fl.ng b <;> decide
    · rw [if_neg hi]
      by_cases h0 : Fl.rg b = 0
      · rw [if_pos h0]; cases Fl.ng b <;> decide
      · rw [if_neg h0]
        have hle := nan_lt hn'
        obtain ⟨_, hl, hr, _⟩ := txt_bounds h0 (show Fl.rg b < 9218868437227405312 by omega)
        have h1 := dec_len (txtN (Fl.rg b)) (by omega)
        have h2 := itoa_len (txtE (Fl.rg b)) (by have := hr.1; omega) (by have := hr.2; omega)
        cases Fl.ng b <;> simp <;> omega
theorem textB_ne (b : Nat) : ∃ c r, textB b = c :: r := by
  unfold textB
  by_cases hn : Fl.isNaN b = true
  · rw [if_pos hn]; exact ⟨_, _, rfl⟩
  · rw [if_neg hn]
    cases Fl.ng b
    · by_cases hi : Fl.rg b = 9218868437227405312
      · rw [if_pos hi]; exact ⟨_, _, rfl⟩
      · rw [if_neg hi]
        by_cases h0 : Fl.rg b = 0
        · rw [if_pos h0]; exact ⟨_, _, rfl⟩
        · rw [if_neg h0]
          obtain ⟨c, r, hc, _⟩ := dec_head (txtN (Fl.rg b))
          rw [hc]
          exact ⟨_, _, rfl⟩
    · exact ⟨_, _, rfl⟩
def rdB (l : List UInt8) : Bool := nameB l && (l != [110, 97, 110]) && (l != [105, 110, 102])
theorem next_rd {l : List UInt8} (h : rdB l = true) : nextS l 0 = (⟨5, 0, l.length, 0, 0, l⟩, 0) := by
  unfold rdB at h
  simp only [Bool.and_eq_true, bne_iff_ne] at h
  exact next_name h.1.1 h.1.2 h.2
theorem next_as {l : List UInt8} {r : Tk × Int} (h : nextS l 0 = r) (w : World) (hE : Env w) : Calls Tryd.prog 9 #[.string ⟨l.toArray⟩, .int .i64 0] w (TokErr r w) := by
  have := next_any ⟨l.toArray⟩ 0 w hE
  rw [show (⟨l.toArray⟩ : ByteArray).data.toList = l from rfl, h] at this
  exact this

set_option maxRecDepth 100000 in
set_option maxHeartbeats 8000000 in
theorem lawLexTexts' (n : Int) (wn : (Lit.int .i64 n).wf = true) (f : Nat) (hf : F64 f) (s : List UInt8) (name : ByteArray) (w : World) (hE : Env w) :
    Calls Tryd.prog 4 #[.int .i64 n, .float .f64 f, .string ⟨s.toArray⟩, .string name] w fun e w' => e = .returned (.bool true) ∧ Below w.heap.size w w' := by
  have hst := store_float
  have HA := Lib.hid (fun w hE => awake_any w hE)
  have bn : -9223372036854775808 ≤ n ∧ n ≤ 9223372036854775807 := by simpa [Lit.wf, IntKind.min, IntKind.max, IntKind.signed, IntKind.bits] using wn
  clear wn
  by_cases hs : s.length ≤ 300 ∧ name.size ≤ 100
  · obtain ⟨hs1, hs2⟩ := hs
    have ht1 : decide ((300 : Int) < (s.length : Int)) = false := by simp; omega
    have ht1' : ¬ 300 < s.length := by omega
    have ht2 : decide ((100 : Int) < (name.size : Int)) = false := by simp; omega
    have ht2' : ¬ 100 < name.size := by omega
    go_enter Tryd.func4, Tryd.ntmps4
    go_wp2_with fail
    refine (HA.out _ hE).mono ?_; rintro e1 w1 ⟨rfl, h1⟩
    go_upto_if 32 with (fail)
    go_cut [] (fun wx => Below w.heap.size w wx)
    case first =>
      by_cases hn : 0 ≤ n
      · have t1 : decide ((0 : Int) ≤ n) = true := by simpa using hn
        obtain ⟨N, rfl⟩ := Int.eq_ofNat_of_zero_le hn
        have HN := Lib.hid (next_as (next_int N (by omega)))
        have HD := Lib.hid (rdigits_any N (by omega))
        generalize (Lib.decDigits N).length = L at *
        go_wp2_with fail
        refine (HD.out _).mono ?_; rintro e2 w2 ⟨rfl, k2⟩
        have h2 := below_tr h1 k2
        go_wp2_with fail
        refine (HN.out _ (hE.below h2)).mono ?_; rintro e3 w3 ⟨rfl, k3⟩
        have h3 := below_tr h2 k3
        rw [tokCells_mk]
        dsimp only
        go_wp2_with fail
        go_meet
        exact h3.alloc h3.size _
      · have t1 : decide ((0 : Int) ≤ n) = false := by simp; omega
        have t1' : ¬ 0 ≤ n := hn
        go_wp2_with fail
        go_meet
        exact h1
    case rest =>
      clear h1
      have h2 := hcut
      clear hcut
      have HT := rtext_any f hf
      obtain ⟨hS0, hSc⟩ : ∃ h : 0 < (⟨(textB f).toArray⟩ : ByteArray).size, (⟨(textB f).toArray⟩ : ByteArray)[0]'h = (textB f).getD 0 0 := by
        obtain ⟨c, r, hcr⟩ := textB_ne f
        rw [hcr]
        exact ⟨by show 0 < (c :: r).toArray.size; simp, rfl⟩
      have hNext : (textB f).getD 0 0 ≠ 45 → ∃ z, ∀ (w : World) (hE : Env w), Calls Tryd.prog 9 #[.string ⟨(textB f).toArray⟩, .int .i64 0] w (TokErr (⟨3, 0, z, 0, canon f, []⟩, 0) w) := by
        intro h
        obtain ⟨z, hz⟩ := next_float hf (Nat.le_trans textB_len (by omega)) h
        exact ⟨z, fun w hE => next_as hz w hE⟩
      generalize (⟨(textB f).toArray⟩ : ByteArray) = S at *
      generalize (textB f).getD 0 0 = c0 at *
      have HT := Lib.hid HT
      have HNx := Lib.hid hNext
      have HSc := Lib.hid hSc
      clear hNext hSc
      go_wp2_with fail
      refine (HT.out _).mono ?_; rintro e2 w2 ⟨rfl, k2⟩
      have h3 := below_tr h2 k2
      clear h2 k2
      go_upto_if 57 with (fail)
      go_cut [] (fun wx => Below w.heap.size w wx)
      case first =>
        by_cases hm : c0 = 45
        · have t1 : (((S[0]'hS0).toNat : Int) != 45) = false := by rw [HSc.out, hm]; rfl
          clear hm
          go_wp2_with fail
          go_meet
          exact h3
        · have t1 : (((S[0]'hS0).toNat : Int) != 45) = true := by
            rw [HSc.out, bne_iff_ne]; intro e; exact hm (UInt8.toNat_inj.1 (by show _ = 45; omega))
          obtain ⟨z, hz⟩ := HNx.out hm
          have HN := Lib.hid hz
          have hSm := rsame_any (canon f) f
          rw [canon_canon] at hSm
          simp only [decide_true] at hSm
          have HSm := Lib.hid hSm
          clear hm hz hSm
          generalize canon f = F at *
          go_wp2_with fail
          refine (HN.out _ (hE.below h3)).mono ?_; rintro e3 w3 ⟨rfl, k3⟩
          have h4 := below_tr h3 k3
          rw [tokCells_mk]
          dsimp only
          go_wp2_with fail
          refine (HSm.out _).mono ?_; rintro e4 w4 ⟨rfl, rfl⟩
          go_wp2_with fail
          go_meet
          exact h4.alloc h4.size _
      case rest =>
        have h4 := hcut
        clear hcut h3 HNx HSc HT hS0
        have HNm := Lib.hid (rname4_any name)
        have hnx := fun h => next_as (next_rd (l := name.data.toList) h)
        rw [bytes_eta] at hnx
        have HRd := Lib.hid hnx
        have hrd := rdB.eq_def name.data.toList
        rw [show (name.data.toList != [110, 97, 110]) = (name.toList != [110, 97, 110]) from by rw [ByteArray.toList_eq], show (name.data.toList != [105, 110, 102]) = (name.toList != [105, 110, 102]) from by rw [ByteArray.toList_eq]] at hrd
        have HRD := Lib.hid hrd
        clear hrd hnx
        go_upto_region 12 with (fail)
        go_cut [86] (fun v wx => v = .bool (rdB name.data.toList) ∧ Below w.heap.size w wx)
        case first =>
          cases hb : nameB name.data.toList
          · rw [hb] at HNm HRD
            clear hb
            go_wp2_with fail
            refine (HNm.out _).mono ?_; rintro e4 w4 ⟨rfl, rfl⟩
            go_wp2_with fail
            go_meet
            exact ⟨by rw [HRD.out]; rfl, h4⟩
          · rw [hb] at HNm HRD
            clear hb
            by_cases p1 : name.toList = [110, 97, 110]
            · have a1 : (name.toList != [110, 97, 110]) = false := by rw [p1]; rfl
              rw [a1] at HRD
              clear a1
              go_wp2_with fail
              refine (HNm.out _).mono ?_; rintro e4 w4 ⟨rfl, rfl⟩
              go_wp2_with fail
              go_meet
              exact ⟨by rw [HRD.out]; rfl, h4⟩
            · have a1 : (name.toList != [110, 97, 110]) = true := bne_iff_ne.2 p1
              rw [a1] at HRD
              clear a1
              by_cases p2 : name.toList = [105, 110, 102]
              · have a2 : (name.toList != [105, 110, 102]) = false := by rw [p2]; rfl
                rw [a2] at HRD
                clear a2 p1
                go_wp2_with fail
                refine (HNm.out _).mono ?_; rintro e4 w4 ⟨rfl, rfl⟩
                go_wp2_with fail
                go_meet
                exact ⟨by rw [HRD.out]; rfl, h4⟩
              · have a2 : (name.toList != [105, 110, 102]) = true := bne_iff_ne.2 p2
                rw [a2] at HRD
                clear a2
                go_wp2_with fail
                refine (HNm.out _).mono ?_; rintro e4 w4 ⟨rfl, rfl⟩
                go_wp2_with fail
                go_meet
                exact ⟨by rw [HRD.out]; simp [p1, p2], h4⟩
        case rest =>
          obtain ⟨rfl, h5⟩ := hcut
          clear h4 HNm HRD
          generalize rdB name.data.toList = rb at *
          go_upto_if 86 with (fail)
          go_cut [] (fun wx => Below w.heap.size w wx)
          case first =>
            cases rb
            · go_wp2_with fail
              go_meet
              exact h5
            · have HN := Lib.hid (HRd.out rfl)
              go_wp2_with fail
              refine (HN.out _ (hE.below h5)).mono ?_; rintro e3 w3 ⟨rfl, k3⟩
              have h6 := below_tr h5 k3
              rw [tokCells_mk]
              dsimp only
              go_wp2_with fail
              go_meet
              exact h6.alloc h6.size _
          case rest =>
            have h6 := hcut
            clear hcut h5 HRd
            have HQ := Lib.hid (rquote_any ⟨s.toArray⟩ (by show s.toArray.size ≤ _; simp; omega))
            obtain ⟨z, hz⟩ := next_quote s (by omega)
            by_cases h200 : 200 < s.length
            · rw [if_pos h200] at hz
              have HN := Lib.hid (next_as hz)
              have t9 : decide ((200 : Int) < (s.length : Int)) = true := by simp; omega
              clear hz
              go_wp2_with fail
              refine (HQ.out _).mono ?_; rintro e4 w4 ⟨rfl, k4⟩
              have h7 := below_tr h6 k4
              go_wp2_with fail
              refine (HN.out _ (hE.below h7)).mono ?_; rintro e5 w5 ⟨rfl, k5⟩
              have h8 := below_tr h7 k5
              rw [tokCells_mk]
              dsimp only
              go_wp2_with fail
              go_ret
              exact ⟨rfl, h8.alloc h8.size _⟩
            · rw [if_neg h200] at hz
              have HN := Lib.hid (next_as hz)
              have t9 : decide ((200 : Int) < (s.length : Int)) = false := by simp; omega
              have t9' : ¬ 200 < s.length := h200
              have t10 : decide ((s.length : Int) ≤ (200 : Int)) = true := by simp; omega
              clear hz
              go_wp2_with fail
              refine (HQ.out _).mono ?_; rintro e4 w4 ⟨rfl, k4⟩
              have h7 := below_tr h6 k4
              go_wp2_with fail
              refine (HN.out _ (hE.below h7)).mono ?_; rintro e5 w5 ⟨rfl, k5⟩
              have h8 := below_tr h7 k5
              rw [tokCells_mk]
              dsimp only
              go_wp2_with fail
              go_ret
              exact ⟨rfl, h8.alloc h8.size _⟩
  · by_cases h1 : s.length ≤ 300
    · have ht1 : decide ((300 : Int) < (s.length : Int)) = false := by simp; omega
      have ht1' : ¬ 300 < s.length := by omega
      have ht2 : decide ((100 : Int) < (name.size : Int)) = true := by simp; omega
      clear hs
      go_enter Tryd.func4, Tryd.ntmps4
      go_wp2_with fail
      refine (HA.out _ hE).mono ?_; rintro e w1 ⟨rfl, h1⟩
      go_wp2_with fail
      refine (HA.out _ (hE.below h1)).mono ?_; rintro e w2 ⟨rfl, k2⟩
      have h2 := below_tr h1 k2
      go_wp2_with fail
      go_ret
      exact ⟨rfl, h2⟩
    · have ht1 : decide ((300 : Int) < (s.length : Int)) = true := by simp; omega
      clear hs
      go_enter Tryd.func4, Tryd.ntmps4
      go_wp2_with fail
      refine (HA.out _ hE).mono ?_; rintro e w1 ⟨rfl, h1⟩
      go_wp2_with fail
      refine (HA.out _ (hE.below h1)).mono ?_; rintro e w2 ⟨rfl, k2⟩
      have h2 := below_tr h1 k2
      go_wp2_with fail
      go_ret
      exact ⟨rfl, h2⟩

theorem lawLexTexts (n : Int) (wn : (Lit.int .i64 n).wf = true) (f : Nat) (hf : F64 f) (s name : ByteArray) (w : World) (hE : Env w) :
    Calls Tryd.prog 4 #[.int .i64 n, .float .f64 f, .string s, .string name] w fun e w' => e = .returned (.bool true) ∧ Below w.heap.size w w' := by
  have h := lawLexTexts' n wn f hf s.data.toList name w hE
  rw [bytes_eta] at h
  exact h
end Go.Proofs.YtkcbkfflabkcgaaDoor
