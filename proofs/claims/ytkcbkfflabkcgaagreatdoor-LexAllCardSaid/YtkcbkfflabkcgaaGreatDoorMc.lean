/-
  The walk of the law LexAll.
-/
import Derived.Test.YtkcbkfflabkcgaaGreatDoorMa
namespace Go.Proofs.YtkcbkfflabkcgaaGreatDoor
open Go.RowKit

theorem tokens_len : ∀ (l : List UInt8) (f b : Nat), (allS l f b).1.length ≤ f
  | _, 0, _ => Nat.le_refl _
  | l, f + 1, b => by
    have ih := tokens_len l f (tokS l b).1.next
    show (if _ then _ else _ : List Tk × Nat × Int).1.length ≤ _
    split
    · simp
    · split
      · simp
      · split
        · omega
        · simp; omega
theorem tokens_len2 (l : List UInt8) (h : l.length ≤ 3000) : (tokens l).1.length ≤ 1000000 := by
  unfold tokens
  split
  · simp
  · have := tokens_len l (l.length + 1) 0; omega
/-- two lists of the same tokens are the same -/
theorem rsame_toks {B B' : Nat} {v v' : Value} {l : List Tk} {w : World} (hl : l.length ≤ 1000000) (h : Toks B v l w) (h' : Toks B' v' l w) :
    Calls Tryz.prog 11 #[v, v'] w fun e w' => e = .returned (.bool true) ∧ Below w.heap.size w w' := by
  rcases Nat.eq_zero_or_pos l.length with h0 | h0
  · have : l = [] := List.length_eq_zero_iff.1 h0
    subst this
    obtain ⟨p, c, rfl⟩ := h.nil
    obtain ⟨q, d, rfl⟩ := h'.nil
    exact rsameList_nil p q c d w
  · obtain ⟨g, c, rfl, hg, hc⟩ := h.form h0
    obtain ⟨g', c', rfl, hg', hc'⟩ := h'.form h0
    exact rsameList_any l hl h0 g g' c c' w hg hg' hc hc'

theorem bytes_eta (s : ByteArray) : (⟨s.data.toList.toArray⟩ : ByteArray) = s := by
  apply ByteArray.ext; simp
set_option maxRecDepth 100000 in
set_option maxHeartbeats 4000000 in
theorem lawLexAll (s : ByteArray) (w : World) (hE : Env w) :
    Calls Tryz.prog 4 #[.string s] w fun e w' => e = .returned (.bool true) ∧ Below w.heap.size w w' := by
  have HA := Lib.hid (fun w hE => awake_any w hE)
  have HL := Lib.hid (fun w hE => all_any s w hE)
  have HN := Lib.hid (fun w => rall_any s w)
  have hw1 := word_any s.data.toList
  have hw2 := rword_any s.data.toList
  rw [bytes_eta] at hw1 hw2
  have HW1 := Lib.hid hw1
  have HW2 := Lib.hid hw2
  clear hw1 hw2
  by_cases hs : s.size ≤ 3000
  · have ht : decide ((3000 : Int) < (s.size : Int)) = false := by simp; omega
    have ht2 : ¬ 3000 < s.size := by omega
    have hlen := tokens_len2 s.data.toList (by simp; omega)
    clear hs
    generalize tokens s.data.toList = q at *
    generalize wordS s.data.toList = b at *
    obtain ⟨l, a, e⟩ := q
    dsimp only at hlen
    go_enter Tryz.func4, Tryz.ntmps4
    go_wp2_with fail
    refine (HA.out _ hE).mono ?_; rintro e1 w1 ⟨rfl, h1⟩
    go_wp2_with fail
    refine (HL.out _ (hE.below h1)).mono ?_; rintro e2 w2 ⟨v, rfl, k2, hT2⟩
    have h2 := below_tr h1 k2
    dsimp only at hT2 ⊢
    go_wp2_with fail
    refine (HN.out _).mono ?_; rintro e3 w3 ⟨v', rfl, k3, hT3⟩
    have h3 := below_tr h2 k3
    replace hT2 := hT2.below k3
    dsimp only at hT3 ⊢
    have HS := Lib.hid (rsame_toks hlen hT2 hT3)
    go_wp2_with fail
    refine (HS.out).mono ?_; rintro e4 w4 ⟨rfl, k4⟩
    have h4 := below_tr h3 k4
    go_wp2_with fail
    refine (HW1.out _).mono ?_; rintro e5 w5 ⟨rfl, rfl⟩
    go_wp2_with fail
    refine (HW2.out _).mono ?_; rintro e5 w5 ⟨rfl, rfl⟩
    go_wp2_with fail
    go_ret
    exact ⟨ret_val (by simp), h4⟩
  · have ht : decide ((3000 : Int) < (s.size : Int)) = true := by simp; omega
    clear hs
    go_enter Tryz.func4, Tryz.ntmps4
    go_wp2_with fail
    refine (HA.out _ hE).mono ?_; rintro e w1 ⟨rfl, h1⟩
    go_wp2_with fail
    refine (HA.out _ (hE.below h1)).mono ?_; rintro e w2 ⟨rfl, k2⟩
    have h2 := below_tr h1 k2
    go_wp2_with fail
    go_ret
    exact ⟨rfl, h2⟩
end Go.Proofs.YtkcbkfflabkcgaaGreatDoor
