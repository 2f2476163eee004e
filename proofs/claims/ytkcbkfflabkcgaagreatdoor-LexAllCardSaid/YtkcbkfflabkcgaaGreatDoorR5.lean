/-
  The references' Parse is what the document says of a text: the joint.
-/
import Derived.Test.YtkcbkfflabkcgaaGreatDoorR4
namespace Go.Proofs.YtkcbkfflabkcgaaGreatDoor
open Go.RowKit Ieee

def signed (below : Bool) (v : Nat) : Int := if below then -(v : Int) else v

set_option maxRecDepth 100000 in
set_option maxHeartbeats 4000000 in
theorem rp_num (s U R Q S : ByteArray) (neg below : Bool) (w : World) (hd : Head s U neg) (hU : U.size ≤ 1000000) (hQ : Q.size ≤ 1000000) (t1 : (s.toList == [110, 97, 110]) = false) (t2 : (U.toList == [105, 110, 102]) = false)
    (hR : ByteArray.mk (rst U.data.toList).toArray = R) (b1 : ¬ (digs U.data.toList).length < 1) (b2 : ¬ 20 < (digs U.data.toList).length) (b3 : 1 < R.size) (b4 : (((R[0]'(by omega)).toNat : Int) == 112) = true)
    (hh : Head (R.extract 1 R.size) Q below) (hp : 0 < (R.extract 1 R.size).size)
    (hS : ByteArray.mk (rst Q.data.toList).toArray = S) (c1 : ¬ (digs Q.data.toList).length < 1) (c2 : ¬ 4 < (digs Q.data.toList).length) (u5 : (S.toList == []) = true) (hv : decVal (digs Q.data.toList) < 10000) :
    Calls Tryz.prog 32 #[.string s] w fun e w' => e = .returned (.tuple #[.float .f64 (madeV neg (capN (decVal (digs U.data.toList))) (signed below (decVal (digs Q.data.toList)))), .int .i64 (madeE (capN (decVal (digs U.data.toList))) (signed below (decVal (digs Q.data.toList))))]) ∧ Below w.heap.size w w' := by
  have HN := Lib.hid (number_any U hU)
  rw [hR] at HN
  have hm := number_any Q hQ
  rw [hS, cap_id (show decVal (digs Q.data.toList) ≤ 576460752303423488 by omega)] at hm
  have HM := Lib.hid hm; clear hm
  have HX := Lib.hid (made_any neg (capN (decVal (digs U.data.toList))))
  generalize capN (decVal (digs U.data.toList)) = M at *
  generalize decVal (digs Q.data.toList) = v at *
  generalize digs U.data.toList = d at *
  generalize digs Q.data.toList = q at *
  generalize hP : R.extract 1 R.size = P at *
  clear hR hU hQ hS
  have h0 : 0 < R.size := by omega
  have t3 : decide ((d.length : Int) < 1) = false := by simp; omega
  have t4 : decide ((20 : Int) < (d.length : Int)) = false := by simp; omega
  have t5 : decide ((R.size : Int) < 2) = false := by simp; omega
  clear b1 b2
  have u3 : decide ((q.length : Int) < 1) = false := by simp; omega
  have u4 : decide ((4 : Int) < (q.length : Int)) = false := by simp; omega
  clear c1 c2
  rcases hd with ⟨rfl, h, h45, hx⟩ | ⟨rfl, rfl, h⟩ | ⟨rfl, rfl, h, h45⟩ <;> rcases hh with ⟨rfl, g, g45, gx⟩ | ⟨rfl, rfl, g⟩ | ⟨rfl, rfl, g, g45⟩
  all_goals first
    | exact absurd hp g
    | (go_enter Tryz.func32, Tryz.ntmps32
       go_wp2_with fail
       refine (HN.out _).mono ?_; rintro e w1 ⟨rfl, hw1⟩
       go_wp2_with fail
       refine (HM.out _).mono ?_; rintro e w2 ⟨rfl, hw2⟩
       go_wp2_with fail
       refine (HX.out _ (by omega) (by omega) _).mono ?_; rintro e w3 ⟨rfl, rfl⟩
       go_wp2_with fail
       go_ret2
       exact ⟨rfl, below_tr hw1 hw2⟩)

/-- what the document says of a text behind its sign, by where its digits end -/
theorem parseB_bad {l : List UInt8} (h1 : ¬ l = [110, 97, 110]) (h2 : ¬ unNeg l = [105, 110, 102]) (h : rform (unNeg l) = false) : parseB l = (0, 5) := by
  rw [← rform_split] at h
  unfold parseB
  rw [if_neg h1, if_neg h2]
  cases hs : splitP (unNeg l) with
  | none => rfl
  | some y =>
    obtain ⟨m, p⟩ := y
    rw [hs] at h
    have h' : (digsOK m 20 && digsOK (unNeg p) 4) = false := h
    simp only [h', Bool.false_eq_true, if_false]
theorem parseB_good {l r : List UInt8} (h1 : ¬ l = [110, 97, 110]) (h2 : ¬ unNeg l = [105, 110, 102]) (hr : rst (unNeg l) = 112 :: r) (b1 : 1 ≤ (digs (unNeg l)).length) (b2 : (digs (unNeg l)).length ≤ 20) (h4 : digsOK (unNeg r) 4 = true) (hd : digs (unNeg r) = unNeg r) :
    parseB l = (madeV (isNeg l) (capN (decVal (digs (unNeg l)))) (signed (isNeg r) (decVal (digs (unNeg r)))), madeE (capN (decVal (digs (unNeg l)))) (signed (isNeg r) (decVal (digs (unNeg r))))) := by
  have hu := digs_rst (unNeg l)
  rw [hr] at hu
  have hs := split_digs (digs (unNeg l)) r (digs_all _)
  rw [hu] at hs
  have h20 : digsOK (digs (unNeg l)) 20 = true := by
    unfold digsOK; rw [digs_all]; simp; omega
  unfold parseB madeV madeE
  rw [if_neg h1, if_neg h2, hs]
  simp only [h20, h4, Bool.and_self, if_true, hd]
  by_cases hb : 9007199254740992 < decVal (digs (unNeg l))
  · rw [if_pos hb, if_pos ((cap_big _).2 hb), if_pos ((cap_big _).2 hb)]
  · rw [if_neg hb, if_neg (fun x => hb ((cap_big _).1 x)), if_neg (fun x => hb ((cap_big _).1 x)), cap_id (by omega)]
    rfl

theorem bs_toList (l : List UInt8) : (⟨l.toArray⟩ : ByteArray).toList = l := by rw [ByteArray.toList_eq]
theorem bs_eq (l m : List UInt8) (h : l = m) : ((⟨l.toArray⟩ : ByteArray).toList == m) = true := by rw [bs_toList, h]; simp
theorem bs_ne (l m : List UInt8) (h : ¬ l = m) : ((⟨l.toArray⟩ : ByteArray).toList == m) = false := by rw [bs_toList]; exact beq_eq_false_iff_ne.2 h
theorem bs_size (l : List UInt8) : (⟨l.toArray⟩ : ByteArray).size = l.length := by show l.toArray.size = _; simp
theorem bs_tail (c : UInt8) (r : List UInt8) : (⟨(c :: r).toArray⟩ : ByteArray).extract 1 (⟨(c :: r).toArray⟩ : ByteArray).size = ⟨r.toArray⟩ := by
  apply ByteArray.ext
  apply Array.toList_inj.1
  show _ = r
  rw [bs_size]
  simp only [ByteArray.data_extract, Array.toList_extract, List.extract_eq_take_drop, List.drop_succ_cons, List.drop_zero]
  exact List.take_of_length_le (by simp)

theorem bad_head (L : List UInt8) (c : UInt8) (r : List UInt8) (hL : L = c :: r) (hr1 : 1 ≤ r.length) (hc : ¬ c = 112) : ∃ h : 1 < (⟨L.toArray⟩ : ByteArray).size, ((((⟨L.toArray⟩ : ByteArray)[0]'(by omega)).toNat : Int) == 112) = false := by
  subst hL
  refine ⟨by rw [bs_size, List.length_cons]; omega, ?_⟩
  show ((c.toNat : Int) == 112) = false
  rw [beq_eq_false_iff_ne]
  intro e
  apply hc
  apply UInt8.toNat_inj.1
  show c.toNat = 112
  omega

set_option maxHeartbeats 2000000 in
theorem rparse_any (l : List UInt8) (hl : l.length ≤ 1000000) (w : World) :
    Calls Tryz.prog 32 #[.string ⟨l.toArray⟩] w fun e w' => e = .returned (.tuple #[.float .f64 (parseB l).1, .int .i64 (parseB l).2]) ∧ Below w.heap.size w w' := by
  by_cases h1 : l = [110, 97, 110]
  · have e : parseB l = (9221120237041090560, 0) := by subst h1; rfl
    rw [e]; exact rp_nan _ w (bs_eq _ _ h1)
  · by_cases h2 : unNeg l = [105, 110, 102]
    · have e : parseB l = (double.word (isNeg l) 9218868437227405312, 0) := by unfold parseB; rw [if_neg h1, if_pos h2]
      rw [e]; exact rp_inf _ _ _ w (head_of l) (bs_ne _ _ h1) (bs_eq _ _ h2)
    · have hul := unNeg_len l
      have hUs : (⟨(unNeg l).toArray⟩ : ByteArray).size ≤ 1000000 := by rw [bs_size]; omega
      have bad1 : rform (unNeg l) = false → ((digs (unNeg l)).length < 1 ∨ 20 < (digs (unNeg l)).length ∨ (⟨(rst (unNeg l)).toArray⟩ : ByteArray).size < 2 ∨ ∃ h : 1 < (⟨(rst (unNeg l)).toArray⟩ : ByteArray).size, ((((⟨(rst (unNeg l)).toArray⟩ : ByteArray)[0]'(by omega)).toNat : Int) == 112) = false) →
          Calls Tryz.prog 32 #[.string ⟨l.toArray⟩] w fun e w' => e = .returned (.tuple #[.float .f64 (parseB l).1, .int .i64 (parseB l).2]) ∧ Below w.heap.size w w' := by
        intro hf hb
        rw [parseB_bad h1 h2 hf]
        exact rp_bad1 _ _ _ _ w (head_of l) hUs (bs_ne _ _ h1) (bs_ne _ _ h2) rfl hb
      have hrf := rform.eq_def (unNeg l)
      by_cases b1 : (digs (unNeg l)).length < 1
      · refine bad1 ?_ (.inl b1)
        rw [hrf]; split
        · simp [show ¬ 1 ≤ (digs (unNeg l)).length by omega]
        · rfl
      · by_cases b2 : 20 < (digs (unNeg l)).length
        · refine bad1 ?_ (.inr (.inl b2))
          rw [hrf]; split
          · simp [show ¬ (digs (unNeg l)).length ≤ 20 by omega]
          · rfl
        · cases hr : rst (unNeg l) with
          | nil =>
            refine bad1 ?_ (.inr (.inr (.inl ?_)))
            · rw [hrf, hr]
            · rw [hr, bs_size]; show 0 < 2; omega
          | cons c r =>
            by_cases hc : c = 112
            · subst hc
              by_cases hrn : r = []
              · subst hrn
                refine bad1 ?_ (.inr (.inr (.inl ?_)))
                · rw [hrf, hr]; simp [show digsOK (unNeg []) 4 = false from rfl]
                · rw [hr, bs_size]; show 1 < 2; omega
              · have hr1 : 1 ≤ r.length := by
                  cases r with
                  | nil => exact absurd rfl hrn
                  | cons _ _ => simp
                have hrl : r.length ≤ 1000000 := by
                  have := congrArg List.length (digs_rst (unNeg l))
                  rw [hr, List.length_append, List.length_cons] at this; omega
                have hQs : (⟨(unNeg r).toArray⟩ : ByteArray).size ≤ 1000000 := by rw [bs_size]; have := unNeg_len r; omega
                have b3 : 1 < (⟨(112 :: r).toArray⟩ : ByteArray).size := by rw [bs_size, List.length_cons]; omega
                have hh : Head ((⟨(112 :: r).toArray⟩ : ByteArray).extract 1 (⟨(112 :: r).toArray⟩ : ByteArray).size) ⟨(unNeg r).toArray⟩ (isNeg r) := by rw [bs_tail]; exact head_of r
                have hp : 0 < ((⟨(112 :: r).toArray⟩ : ByteArray).extract 1 (⟨(112 :: r).toArray⟩ : ByteArray).size).size := by rw [bs_tail, bs_size]; omega
                have hok := digsOK_rst (unNeg r) 4
                by_cases c1 : (digs (unNeg r)).length < 1
                · rw [show decide (1 ≤ (digs (unNeg r)).length) = false from decide_eq_false (by omega)] at hok
                  rw [parseB_bad h1 h2 (by rw [hrf, hr]; simp [hok])]
                  exact rp_bad2 _ _ _ _ _ _ _ w (head_of l) hUs hQs (bs_ne _ _ h1) (bs_ne _ _ h2) (show _ = (⟨(112 :: r).toArray⟩ : ByteArray) by rw [← hr]) b1 b2 b3 rfl hh hp rfl (.inl c1)
                · by_cases c2 : 4 < (digs (unNeg r)).length
                  · rw [show decide ((digs (unNeg r)).length ≤ 4) = false from decide_eq_false (by omega)] at hok
                    rw [parseB_bad h1 h2 (by rw [hrf, hr]; simp [hok])]
                    exact rp_bad2 _ _ _ _ _ _ _ w (head_of l) hUs hQs (bs_ne _ _ h1) (bs_ne _ _ h2) (show _ = (⟨(112 :: r).toArray⟩ : ByteArray) by rw [← hr]) b1 b2 b3 rfl hh hp rfl (.inr (.inl c2))
                  · by_cases c3 : rst (unNeg r) = []
                    · have hdq : digs (unNeg r) = unNeg r := by have := digs_rst (unNeg r); rw [c3, List.append_nil] at this; exact this
                      have hok2 : digsOK (unNeg r) 4 = true := by
                        rw [hok, decide_eq_true c3, decide_eq_true (show 1 ≤ (digs (unNeg r)).length by omega), decide_eq_true (show (digs (unNeg r)).length ≤ 4 by omega)]; rfl
                      rw [parseB_good h1 h2 hr (by omega) (by omega) hok2 hdq]
                      exact rp_num _ _ _ _ _ _ _ w (head_of l) hUs hQs (bs_ne _ _ h1) (bs_ne _ _ h2) (show _ = (⟨(112 :: r).toArray⟩ : ByteArray) by rw [← hr]) b1 b2 b3 rfl hh hp rfl c1 c2 (bs_eq _ _ c3) (by
                        show decVal (digs (unNeg r)) < 10000
                        rw [hdq]; exact (atoi_digs _ hok2).2)
                    · rw [show decide (rst (unNeg r) = []) = false from decide_eq_false c3] at hok
                      rw [parseB_bad h1 h2 (by rw [hrf, hr]; simp [hok])]
                      exact rp_bad2 _ _ _ _ _ _ _ w (head_of l) hUs hQs (bs_ne _ _ h1) (bs_ne _ _ h2) (show _ = (⟨(112 :: r).toArray⟩ : ByteArray) by rw [← hr]) b1 b2 b3 rfl hh hp rfl (.inr (.inr (bs_ne _ _ c3)))
            · by_cases hrn : r = []
              · subst hrn
                refine bad1 ?_ (.inr (.inr (.inl ?_)))
                · rw [hrf, hr]; simp [show (c == 112) = false from beq_eq_false_iff_ne.2 hc]
                · rw [hr, bs_size]; show 1 < 2; omega
              · have hr1 : 1 ≤ r.length := by
                  cases r with
                  | nil => exact absurd rfl hrn
                  | cons _ _ => simp
                refine bad1 ?_ (.inr (.inr (.inr ?_)))
                · rw [hrf, hr]; simp [show (c == 112) = false from beq_eq_false_iff_ne.2 hc]
                · exact bad_head _ c r hr hr1 hc
end Go.Proofs.YtkcbkfflabkcgaaGreatDoor
