/-
  The walk of the references' Parse.
-/
import Derived.Test.YtkcbkfflabkcgaaGreatDoorR3
import Derived.Test.YtkcbkfflabkcgaaGreatDoorW8
namespace Go.Proofs.YtkcbkfflabkcgaaGreatDoor
open Go.RowKit Ieee

/-- a text's minus, and what is behind it -/
def Head (s U : ByteArray) (neg : Bool) : Prop :=
  (neg = true ∧ ∃ h : 0 < s.size, (((s[0]'h).toNat : Int) == 45) = true ∧ s.extract 1 s.size = U) ∨
  (neg = false ∧ s = U ∧ ¬ 0 < s.size) ∨
  (neg = false ∧ s = U ∧ ∃ h : 0 < s.size, (((s[0]'h).toNat : Int) == 45) = false)

theorem head_of (l : List UInt8) : Head ⟨l.toArray⟩ ⟨(unNeg l).toArray⟩ (isNeg l) := by
  cases l with
  | nil => right; left; exact ⟨rfl, rfl, by show ¬ 0 < 0; omega⟩
  | cons c r =>
    by_cases h : c = 45
    · subst h
      left
      refine ⟨rfl, by show 0 < (45 :: r).toArray.size; simp, rfl, ?_⟩
      apply ByteArray.ext
      apply Array.toList_inj.1
      show _ = r
      simp only [ByteArray.data_extract, Array.toList_extract, List.extract_eq_take_drop, List.drop_succ_cons, List.drop_zero]
      exact List.take_of_length_le (by show _ ≤ (45 :: r).toArray.size - 1; simp)
    · right; right
      have hn : isNeg (c :: r) = false := by
        show (some c == some (45 : UInt8)) = false
        rw [show (some c == some (45 : UInt8)) = (c == 45) from rfl, beq_eq_false_iff_ne.2 h]
      refine ⟨hn, by unfold unNeg; rw [hn]; rfl, by show 0 < (c :: r).toArray.size; simp, ?_⟩
      show ((c.toNat : Int) == 45) = false
      rw [beq_eq_false_iff_ne]
      intro e
      apply h
      apply UInt8.toNat_inj.1
      show c.toNat = 45
      omega

set_option maxRecDepth 100000 in
set_option maxHeartbeats 1000000 in
theorem rp_nan (s : ByteArray) (w : World) (t1 : (s.toList == [110, 97, 110]) = true) :
    Calls Tryz.prog 32 #[.string s] w fun e w' => e = .returned (.tuple #[.float .f64 9221120237041090560, .int .i64 0]) ∧ Below w.heap.size w w' := by
  go_enter Tryz.func32, Tryz.ntmps32
  go_wp2_with (first
    | (go_at_call 42; refine (mnan_any _).mono ?_; rintro e w' ⟨rfl, rfl⟩)
    | (go_at_call 34; refine (rcanon_any _ _).mono ?_; rintro e w' ⟨rfl, rfl⟩))
  go_ret2
  exact ⟨rfl, Below.refl _ _⟩

set_option maxRecDepth 100000 in
set_option maxHeartbeats 1000000 in
theorem rp_inf (s U : ByteArray) (neg : Bool) (w : World) (hd : Head s U neg) (t1 : (s.toList == [110, 97, 110]) = false) (t2 : (U.toList == [105, 110, 102]) = true) :
    Calls Tryz.prog 32 #[.string s] w fun e w' => e = .returned (.tuple #[.float .f64 (double.word neg 9218868437227405312), .int .i64 0]) ∧ Below w.heap.size w w' := by
  have HI := Lib.hid inf_pos
  have HJ := Lib.hid inf_neg
  rcases hd with ⟨rfl, h, h45, hx⟩ | ⟨rfl, rfl, h⟩ | ⟨rfl, rfl, h, h45⟩
  all_goals
    go_enter Tryz.func32, Tryz.ntmps32
    go_wp2_with (first
      | (go_at_call 43; refine (HI.out _).mono ?_; rintro e w' ⟨rfl, rfl⟩)
      | (go_at_call 43; refine (HJ.out _).mono ?_; rintro e w' ⟨rfl, rfl⟩))
    go_ret2
    exact ⟨rfl, Below.refl _ _⟩

set_option maxRecDepth 100000 in
set_option maxHeartbeats 2000000 in
theorem rp_bad1 (s U R : ByteArray) (neg : Bool) (w : World) (hd : Head s U neg) (hU : U.size ≤ 1000000) (t1 : (s.toList == [110, 97, 110]) = false) (t2 : (U.toList == [105, 110, 102]) = false)
    (hR : ByteArray.mk (rst U.data.toList).toArray = R)
    (hb : (digs U.data.toList).length < 1 ∨ 20 < (digs U.data.toList).length ∨ R.size < 2 ∨ ∃ h : 1 < R.size, (((R[0]'(by omega)).toNat : Int) == 112) = false) :
    Calls Tryz.prog 32 #[.string s] w fun e w' => e = .returned (.tuple #[.float .f64 0, .int .i64 5]) ∧ Below w.heap.size w w' := by
  have HN := Lib.hid (number_any U hU)
  rw [hR] at HN
  generalize digs U.data.toList = d at *
  clear hR hU
  by_cases b1 : d.length < 1
  · have t3 : decide ((d.length : Int) < 1) = true := by simp; omega
    clear b1 hb
    rcases hd with ⟨rfl, h, h45, hx⟩ | ⟨rfl, rfl, h⟩ | ⟨rfl, rfl, h, h45⟩
    all_goals
      go_enter Tryz.func32, Tryz.ntmps32
      go_wp2_with fail
      refine (HN.out _).mono ?_; rintro e w1 ⟨rfl, hw1⟩
      go_wp2_with fail
      go_ret2
      exact ⟨rfl, hw1⟩
  · have t3 : decide ((d.length : Int) < 1) = false := by simp; omega
    by_cases b2 : 20 < d.length
    · have t4 : decide ((20 : Int) < (d.length : Int)) = true := by simp; omega
      clear b1 b2 hb
      rcases hd with ⟨rfl, h, h45, hx⟩ | ⟨rfl, rfl, h⟩ | ⟨rfl, rfl, h, h45⟩
      all_goals
        go_enter Tryz.func32, Tryz.ntmps32
        go_wp2_with fail
        refine (HN.out _).mono ?_; rintro e w1 ⟨rfl, hw1⟩
        go_wp2_with fail
        go_ret2
        exact ⟨rfl, hw1⟩
    · have t4 : decide ((20 : Int) < (d.length : Int)) = false := by simp; omega
      by_cases b3 : R.size < 2
      · have t5 : decide ((R.size : Int) < 2) = true := by simp; omega
        clear b1 b2 b3 hb
        rcases hd with ⟨rfl, h, h45, hx⟩ | ⟨rfl, rfl, h⟩ | ⟨rfl, rfl, h, h45⟩
        all_goals
          go_enter Tryz.func32, Tryz.ntmps32
          go_wp2_with fail
          refine (HN.out _).mono ?_; rintro e w1 ⟨rfl, hw1⟩
          go_wp2_with fail
          go_ret2
          exact ⟨rfl, hw1⟩
      · have t5 : decide ((R.size : Int) < 2) = false := by simp; omega
        obtain ⟨h1, h2⟩ : ∃ h : 1 < R.size, (((R[0]'(by omega)).toNat : Int) == 112) = false := by
          rcases hb with h | h | h | h
          · exact absurd h b1
          · exact absurd h b2
          · exact absurd h b3
          · exact h
        have h0 : 0 < R.size := by omega
        clear b1 b2
        rcases hd with ⟨rfl, h, h45, hx⟩ | ⟨rfl, rfl, h⟩ | ⟨rfl, rfl, h, h45⟩
        all_goals
          go_enter Tryz.func32, Tryz.ntmps32
          go_wp2_with fail
          refine (HN.out _).mono ?_; rintro e w1 ⟨rfl, hw1⟩
          go_wp2_with fail
          go_ret2
          exact ⟨rfl, hw1⟩

set_option maxRecDepth 100000 in
set_option maxHeartbeats 4000000 in
/-- the second number: what is behind the 'p' -/
theorem rp_bad2 (s U R Q S : ByteArray) (neg below : Bool) (w : World) (hd : Head s U neg) (hU : U.size ≤ 1000000) (hQ : Q.size ≤ 1000000) (t1 : (s.toList == [110, 97, 110]) = false) (t2 : (U.toList == [105, 110, 102]) = false)
    (hR : ByteArray.mk (rst U.data.toList).toArray = R) (b1 : ¬ (digs U.data.toList).length < 1) (b2 : ¬ 20 < (digs U.data.toList).length) (b3 : 1 < R.size) (b4 : (((R[0]'(by omega)).toNat : Int) == 112) = true)
    (hh : Head (R.extract 1 R.size) Q below) (hp : 0 < (R.extract 1 R.size).size)
    (hS : ByteArray.mk (rst Q.data.toList).toArray = S)
    (hb : (digs Q.data.toList).length < 1 ∨ 4 < (digs Q.data.toList).length ∨ (S.toList == []) = false) :
    Calls Tryz.prog 32 #[.string s] w fun e w' => e = .returned (.tuple #[.float .f64 0, .int .i64 5]) ∧ Below w.heap.size w w' := by
  have HN := Lib.hid (number_any U hU)
  rw [hR] at HN
  have HM := Lib.hid (number_any Q hQ)
  rw [hS] at HM
  generalize digs U.data.toList = d at *
  generalize digs Q.data.toList = q at *
  generalize hP : R.extract 1 R.size = P at *
  clear hR hU hQ hS
  have h0 : 0 < R.size := by omega
  have t3 : decide ((d.length : Int) < 1) = false := by simp; omega
  have t4 : decide ((20 : Int) < (d.length : Int)) = false := by simp; omega
  have t5 : decide ((R.size : Int) < 2) = false := by simp; omega
  clear b1 b2
  by_cases c1 : q.length < 1
  · have u3 : decide ((q.length : Int) < 1) = true := by simp; omega
    clear c1 hb
    rcases hd with ⟨rfl, h, h45, hx⟩ | ⟨rfl, rfl, h⟩ | ⟨rfl, rfl, h, h45⟩ <;> rcases hh with ⟨rfl, g, g45, gx⟩ | ⟨rfl, rfl, g⟩ | ⟨rfl, rfl, g, g45⟩
    all_goals first
      | exact absurd hp g
      | (go_enter Tryz.func32, Tryz.ntmps32
         go_wp2_with fail
         refine (HN.out _).mono ?_; rintro e w1 ⟨rfl, hw1⟩
         go_wp2_with fail
         refine (HM.out _).mono ?_; rintro e w2 ⟨rfl, hw2⟩
         go_wp2_with fail
         go_ret2
         exact ⟨rfl, below_tr hw1 hw2⟩)
  · have u3 : decide ((q.length : Int) < 1) = false := by simp; omega
    by_cases c2 : 4 < q.length
    · have u4 : decide ((4 : Int) < (q.length : Int)) = true := by simp; omega
      clear c1 c2 hb
      rcases hd with ⟨rfl, h, h45, hx⟩ | ⟨rfl, rfl, h⟩ | ⟨rfl, rfl, h, h45⟩ <;> rcases hh with ⟨rfl, g, g45, gx⟩ | ⟨rfl, rfl, g⟩ | ⟨rfl, rfl, g, g45⟩
      all_goals first
        | exact absurd hp g
        | (go_enter Tryz.func32, Tryz.ntmps32
           go_wp2_with fail
           refine (HN.out _).mono ?_; rintro e w1 ⟨rfl, hw1⟩
           go_wp2_with fail
           refine (HM.out _).mono ?_; rintro e w2 ⟨rfl, hw2⟩
           go_wp2_with fail
           go_ret2
           exact ⟨rfl, below_tr hw1 hw2⟩)
    · have u4 : decide ((4 : Int) < (q.length : Int)) = false := by simp; omega
      have u5 : (S.toList == []) = false := by
        rcases hb with h | h | h
        · exact absurd h c1
        · exact absurd h c2
        · exact h
      clear c1 c2 hb
      rcases hd with ⟨rfl, h, h45, hx⟩ | ⟨rfl, rfl, h⟩ | ⟨rfl, rfl, h, h45⟩ <;> rcases hh with ⟨rfl, g, g45, gx⟩ | ⟨rfl, rfl, g⟩ | ⟨rfl, rfl, g, g45⟩
      all_goals first
        | exact absurd hp g
        | (go_enter Tryz.func32, Tryz.ntmps32
           go_wp2_with fail
           refine (HN.out _).mono ?_; rintro e w1 ⟨rfl, hw1⟩
           go_wp2_with fail
           refine (HM.out _).mono ?_; rintro e w2 ⟨rfl, hw2⟩
           go_wp2_with fail
           go_ret2
           exact ⟨rfl, below_tr hw1 hw2⟩)
end Go.Proofs.YtkcbkfflabkcgaaGreatDoor
