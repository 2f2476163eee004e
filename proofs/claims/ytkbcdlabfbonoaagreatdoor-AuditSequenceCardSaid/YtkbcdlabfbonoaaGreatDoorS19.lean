/-
  La8 in one text.
-/
import Derived.Below
import Derived.BigFrame
import Derived.Deep.Cut
import Derived.Deep.DeepCutAuto
import Derived.Deep.QuietTactic
import Derived.Deep.RegionHeld3
import Derived.IntWalk
import Derived.KernelRfl
import Derived.Laws.Unary
import Derived.Lib.Builder
import Derived.Lib.Hide
import Derived.LoopTactic
import Derived.OneCell
import Derived.OwnWalk
import Derived.ProofKit
import Derived.RegionTactic
import Derived.Scope
import Derived.Tactics
import Derived.Test.YtkbcdlabfbonoaaGreatDoorChecked
import Derived.Test.YtkbcdlabfbonoaaGreatDoorS12
import Derived.Test.YtkbcdlabfbonoaaGreatDoorS15
import Derived.Test.YtkbcdlabfbonoaaGreatDoorS18
namespace Go.Proofs.YtkbcdlabfbonoaaGreatDoor
/-- pairs as an order on labels -/
def pairR (n : Nat) (l : List (Int × Int)) : Rel := fun x y => (decide (x < n) && Nat.beq x y) || l.any fun p => decide (p.1 = (x : Int)) && decide (p.2 = (y : Int))
def inP (n : Nat) (p : Int × Int) : Bool := (decide (0 ≤ p.1) && decide (p.1 < (n : Int))) && (decide (0 ≤ p.2) && decide (p.2 < (n : Int)))
theorem pairR_refl {n : Nat} {l : List (Int × Int)} {k : Nat} (h : k < n) : pairR n l k k = true := by
  unfold pairR
  rw [decide_eq_true h, Nat.beq_refl]; rfl
theorem pairR_out {n : Nat} {l : List (Int × Int)} (h : l.all (inP n) = true) : ∀ x y, n ≤ x → pairR n l x y = false := by
  intro x y hx
  unfold pairR
  rw [Bool.or_eq_false_iff]
  refine ⟨by rw [decide_eq_false (by omega)]; rfl, ?_⟩
  rw [List.any_eq_false]
  intro p hp
  have := List.all_eq_true.1 h p hp
  simp only [inP, Bool.and_eq_true, decide_eq_true_eq] at this
  simp only [Bool.and_eq_true, decide_eq_true_eq]
  omega
theorem pairR_far {n : Nat} {l : List (Int × Int)} (h : l.all (inP n) = true) : ∀ x y, n ≤ y → pairR n l x y = false := by
  intro x y hy
  unfold pairR
  rw [Bool.or_eq_false_iff]
  refine ⟨?_, ?_⟩
  · cases hb : Nat.beq x y with
    | false => simp
    | true => rw [decide_eq_false (by have := Nat.eq_of_beq_eq_true hb; omega)]; rfl
  rw [List.any_eq_false]
  intro p hp
  have := List.all_eq_true.1 h p hp
  simp only [inP, Bool.and_eq_true, decide_eq_true_eq] at this
  simp only [Bool.and_eq_true, decide_eq_true_eq]
  omega
/-- one pair more -/
theorem pairR_snoc (n : Nat) (l : List (Int × Int)) (a b : Nat) : ∀ x y, pairR n (l ++ [((a : Int), (b : Int))]) x y = (pairR n l x y || (Nat.beq x a && Nat.beq y b)) := by
  intro x y
  unfold pairR
  rw [List.any_append, ← Bool.or_assoc]
  congr 1
  simp only [List.any_cons, List.any_nil, Bool.or_false]
  rw [Bool.eq_iff_iff]
  simp only [Bool.and_eq_true, decide_eq_true_eq]
  constructor
  · intro ⟨h1, h2⟩
    have e1 : a = x := by omega
    have e2 : b = y := by omega
    subst e1; subst e2
    exact ⟨Nat.beq_refl _, Nat.beq_refl _⟩
  · intro ⟨h1, h2⟩
    have e1 := Nat.eq_of_beq_eq_true h1
    have e2 := Nat.eq_of_beq_eq_true h2
    subst e1; subst e2
    exact ⟨rfl, rfl⟩
/-- the diagonal up to a label -/
def diagR (a : Nat) : Rel := fun x y => decide (x < a) && Nat.beq x y
theorem diagR_all (n : Nat) : diagR n = pairR n [] := by funext x y; unfold diagR pairR; simp
theorem diagR_zero : diagR 0 = fun _ _ => false := by funext x y; unfold diagR; simp
theorem diagR_step (a x y : Nat) : diagR (a + 1) x y = (diagR a x y || (Nat.beq x a && Nat.beq y a)) := by
  unfold diagR
  rw [Bool.eq_iff_iff]
  simp only [Bool.and_eq_true, Bool.or_eq_true, decide_eq_true_eq]
  constructor
  · intro ⟨h1, h2⟩
    by_cases e : x = a
    · subst e
      exact .inr ⟨Nat.beq_refl _, by have := Nat.eq_of_beq_eq_true h2; subst this; exact Nat.beq_refl _⟩
    · exact .inl ⟨by omega, h2⟩
  · rintro (⟨h1, h2⟩ | ⟨h1, h2⟩)
    · exact ⟨by omega, h2⟩
    · have e1 := Nat.eq_of_beq_eq_true h1
      have e2 := Nat.eq_of_beq_eq_true h2
      subst e1; subst e2
      exact ⟨by omega, Nat.beq_refl _⟩
/-- a pass under way: all before (a, b, c) are joined -/
def TriAt (R : Rel) (n i : Nat) (le : Rel) (a b c : Nat) : Prop :=
  (∀ x y, le x y = true → War R n x y = true) ∧ (∀ x y, War R i x y = true → le x y = true) ∧
  ∀ x y z, x < n → y < n → z < n → (x < a ∨ (x = a ∧ (y < b ∨ (y = b ∧ z < c)))) → War R i x y = true → War R i y z = true → le x z = true
theorem TriAt.start {R : Rel} {n i : Nat} {le : Rel} (h1 : ∀ x y, le x y = true → War R n x y = true) (h2 : ∀ x y, War R i x y = true → le x y = true) : TriAt R n i le 0 0 0 :=
  ⟨h1, h2, fun x y z _ _ _ h => by omega⟩
theorem TriAt.row {R : Rel} {n i : Nat} {le : Rel} {a : Nat} (h : TriAt R n i le a n 0) : TriAt R n i le (a + 1) 0 0 :=
  ⟨h.1, h.2.1, fun x y z hx hy hz k => h.2.2 x y z hx hy hz (by omega)⟩
theorem TriAt.col {R : Rel} {n i : Nat} {le : Rel} {a b : Nat} (h : TriAt R n i le a b n) : TriAt R n i le a (b + 1) 0 :=
  ⟨h.1, h.2.1, fun x y z hx hy hz k => h.2.2 x y z hx hy hz (by omega)⟩
theorem TriAt.step {R : Rel} {n i : Nat} {le : Rel} {a b c : Nat} (hb : b < n) (h : TriAt R n i le a b c) : TriAt R n i (triW le a b c) a b (c + 1) := by
  refine ⟨triW_sub hb h.1, fun x y k => triW_mono (h.2.1 x y k), fun x y z hx hy hz k k1 k2 => ?_⟩
  by_cases e : x = a ∧ y = b ∧ z = c
  · obtain ⟨rfl, rfl, rfl⟩ := e
    unfold triW
    rw [if_pos ⟨rfl, rfl, h.2.1 _ _ k1, h.2.1 _ _ k2⟩]
  · exact triW_mono (h.2.2 x y z hx hy hz (by omega) k1 k2)
theorem TriAt.stay {R : Rel} {n i : Nat} {le : Rel} {a b c : Nat} (h : TriAt R n i le a b c) (hno : ¬ (le a b = true ∧ le b c = true)) : TriAt R n i le a b (c + 1) :=
  ⟨h.1, h.2.1, fun x y z hx hy hz k k1 k2 => by
    by_cases e : x = a ∧ y = b ∧ z = c
    · obtain ⟨rfl, rfl, rfl⟩ := e
      exact absurd ⟨h.2.1 _ _ k1, h.2.1 _ _ k2⟩ hno
    · exact h.2.2 x y z hx hy hz (by omega) k1 k2⟩
theorem TriAt.done {R : Rel} {n i : Nat} {le : Rel} (hO : ∀ x y, n ≤ x → R x y = false) (hF : ∀ x y, n ≤ y → R x y = false) (h : TriAt R n i le n 0 0) : ∀ x y, War R (i + 1) x y = true → le x y = true := by
  intro x y k
  rcases War.by k with k | ⟨k1, k2⟩
  · exact h.2.1 x y k
  · have hx : x < n := by
      rcases Nat.lt_or_ge x n with q | q
      · exact q
      · rw [War.out hO _ _ _ q] at k1; cases k1
    have hi : i < n := by
      rcases Nat.lt_or_ge i n with q | q
      · exact q
      · rw [War.far hF _ _ _ q] at k1; cases k1
    have hy : y < n := by
      rcases Nat.lt_or_ge y n with q | q
      · exact q
      · rw [War.far hF _ _ _ q] at k2; cases k2
    exact h.2.2 x i y hx hi hy (by omega) k1 k2
theorem rel_ext {le le' : Rel} (h1 : ∀ x y, le x y = true → le' x y = true) (h2 : ∀ x y, le' x y = true → le x y = true) : le = le' := by
  funext x y
  cases h : le x y with
  | true => rw [h1 x y h]
  | false =>
    cases k : le' x y with
    | false => rfl
    | true => rw [h2 x y k] at h; cases h
theorem closed8 {R : Rel} {n : Nat} {le : Rel} (hn : n ≤ 8) (h1 : ∀ x y, le x y = true → War R n x y = true) (h2 : ∀ x y, War R 8 x y = true → le x y = true) : le = War R n :=
  rel_ext h1 fun x y k => h2 x y (War.le R hn k)
/-- what is above both, and below all such: looked for in two ways -/
theorem hasJ_eq {n : Nat} {le : Rel} (hn : n ≤ 8) (hF : ∀ x y, n ≤ y → le x y = false) (a b : Nat) : (jn le a b).isSome = hasJ n le a b := by
  unfold jn leastC hasJ
  rw [Bool.eq_iff_iff, List.find?_isSome, List.any_eq_true]
  constructor
  · rintro ⟨c, hc, k⟩
    simp only [Bool.and_eq_true, List.all_eq_true, List.mem_range] at k hc
    obtain ⟨⟨k1, k2⟩, k3⟩ := k
    have hcn : c < n := by
      rcases Nat.lt_or_ge c n with q | q
      · exact q
      · rw [hF _ _ q] at k1; cases k1
    refine ⟨c, List.mem_range.2 hcn, ?_⟩
    unfold joinOk
    rw [k1, k2]
    simp only [Bool.true_and, List.all_eq_true, List.mem_range]
    intro d hd
    exact k3 d (by omega)
  · rintro ⟨c, hc, k⟩
    have hc := List.mem_range.1 hc
    unfold joinOk at k
    simp only [Bool.and_eq_true, List.all_eq_true, List.mem_range] at k
    obtain ⟨⟨k1, k2⟩, k3⟩ := k
    refine ⟨c, List.mem_range.2 (by omega), ?_⟩
    dsimp only
    rw [k1, k2]
    simp only [Bool.true_and, List.all_eq_true, List.mem_range]
    intro d hd
    rcases Nat.lt_or_ge d n with q | q
    · exact k3 d q
    · rw [hF a d q]; rfl
theorem pairP_eq {n : Nat} {le : Rel} (hn : n ≤ 8) (hO : ∀ x y, n ≤ x → le x y = false) (hF : ∀ x y, n ≤ y → le x y = false) (a b : Nat) : pairP le a b = pairOk n le a b := by
  unfold pairP pairOk
  rw [hasJ_eq hn hF, hasJ_eq (le := flip le) hn (fun x y h => hO y x h)]
theorem latB_eq {n : Nat} {le : Rel} (hn : n ≤ 8) (hO : ∀ x y, n ≤ x → le x y = false) (hF : ∀ x y, n ≤ y → le x y = false) : latB n le = latOk n le := by
  unfold latB latOk
  congr 1
  funext a
  congr 1
  funext b
  exact pairP_eq hn hO hF a b
/-- what Make answers: its error -/
def makeE (n : Int) (l : List (Int × Int)) : Int :=
  if n < 1 ∨ 8 < n ∨ 64 < l.length then 2 else if l.all (inP n.toNat) = false then 2 else if latB n.toNat (War (pairR n.toNat l) n.toNat) = true then 0 else 16
end Go.Proofs.YtkbcdlabfbonoaaGreatDoor
