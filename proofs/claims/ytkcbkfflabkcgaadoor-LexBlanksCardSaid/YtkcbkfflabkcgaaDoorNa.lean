/-
  Plain law: where a text's tokens lie. No program is in sight.
-/
import Derived.Test.YtkcbkfflabkcgaaDoorKd
namespace Go.Proofs.YtkcbkfflabkcgaaDoor
open Go

theorem far_each (p : UInt8 → Bool) {l : List UInt8} {a k : Nat} (hak : a ≤ k) (hk : k < a + far p l a) (ha : a ≤ l.length) : p (l.getD k 0) = true := by
  have hle := far_le p l ha
  have h := part_all p l a
  rw [List.all_eq_true] at h
  refine h _ ?_
  have hkl : k < l.length := by omega
  have e : l.getD k 0 = l[k] := by simp [List.getD, hkl]
  rw [e]
  unfold part
  rw [Nat.add_sub_cancel_left]
  refine List.mem_iff_getElem.2 ⟨k - a, by rw [List.length_take, List.length_drop]; omega, ?_⟩
  rw [List.getElem_take, List.getElem_drop]
  congr 1
  omega
/-- each token begins behind the blanks that follow the one before it -/
def Chain (l : List UInt8) : Nat → List Tk → Prop
  | _, [] => True
  | b, k :: ks => k.pos = b + far isBl l b ∧ k.pos < k.next ∧ b ≤ l.length ∧ (ks ≠ [] → k.next ≤ l.length) ∧ Chain l k.next ks
def lastTk (n : Nat) : Tk := ⟨0, n, n + 1, 0, 0, []⟩
theorem allS_chain (l : List UInt8) : ∀ (f b : Nat), b ≤ l.length → l.length - b < f → (allS l f b).2.2 = 0 → Chain l b ((allS l f b).1 ++ [lastTk l.length])
  | 0, b, _, hf, _ => by omega
  | f + 1, b, hb, hf, h => by
    by_cases h0 : (tokS l b).2 = 0
    · rcases tok_cases hb h0 with ⟨h1, h2⟩ | ⟨h1, h2⟩
      · rw [allS_end h0 (by rw [h2])]
        exact ⟨h1.symm, Nat.lt_succ_self _, hb, fun h => absurd rfl h, trivial⟩
      · have e := allS_go (f := f) [] h0 h2.kind
        rw [preT_nil] at e
        rw [e] at h ⊢
        have hz : (allS l f (tokS l b).1.next).2.2 = 0 := by
          by_cases hq : (allS l f (tokS l b).1.next).2.2 = 0
          · exact hq
          · rw [preT_err _ hq] at h; exact h
        have hlt := h2.lt
        have hle := h2.le
        have ih := allS_chain l f (tokS l b).1.next h2.le (by omega) hz
        have e2 : (preT ([] ++ [(tokS l b).1]) (allS l f (tokS l b).1.next)).1 = (tokS l b).1 :: (allS l f (tokS l b).1.next).1 := by
          unfold preT; rw [if_neg (by simpa using hz)]; rfl
        rw [e2]
        exact ⟨h2.pos, by rw [h2.pos]; exact hlt, hb, fun _ => hle, ih⟩
    · rw [allS_err h0] at h
      exact absurd h h0
theorem tokens_chain {l : List UInt8} (hl : l.length ≤ 2000) (h : (tokens l).2.2 = 0) : Chain l 0 ((tokens l).1 ++ [lastTk l.length]) := by
  unfold tokens at h ⊢
  rw [if_neg (by omega)] at h ⊢
  exact allS_chain l _ 0 (by omega) (by omega) h
theorem allS_bad (l : List UInt8) : ∀ (f b : Nat), (allS l f b).2.2 ≠ 0 → (allS l f b).1 = []
  | 0, b, h => absurd rfl h
  | f + 1, b, h => by
    have ih := allS_bad l f (tokS l b).1.next
    revert h
    show (if _ then _ else _ : List Tk × Nat × Int).2.2 ≠ 0 → (if _ then _ else _ : List Tk × Nat × Int).1 = []
    split
    · intro _; rfl
    · split
      · intro _; rfl
      · split
        · rename_i h1; intro _; exact ih h1
        · intro h; exact absurd rfl h
theorem tokens_bad {l : List UInt8} (h : (tokens l).2.2 ≠ 0) : (tokens l).1 = [] := by
  unfold tokens at h ⊢
  split
  · rfl
  · rename_i h1
    rw [if_neg h1] at h
    exact allS_bad l _ _ h
theorem chain_drop {l : List UInt8} {L : List Tk} {i b : Nat} (hi : i < L.length) (h : Chain l b (L.drop i)) :
    (L.getD i noTk).pos = b + far isBl l b ∧ (L.getD i noTk).pos < (L.getD i noTk).next ∧ b ≤ l.length ∧ Chain l (L.getD i noTk).next (L.drop (i + 1)) := by
  have e : L.getD i noTk = L[i] := by simp [List.getD, hi]
  rw [e]
  rw [List.drop_eq_getElem_cons hi] at h
  exact ⟨h.1, h.2.1, h.2.2.1, h.2.2.2.2⟩
theorem tokens_len : ∀ (l : List UInt8) (f b : Nat), (allS l f b).1.length ≤ f
  | _, 0, _ => Nat.le_refl _
  | l, f + 1, b => by
    have ih := tokens_len l f (tokS l b).1.next
    show (if _ then _ else _ : List Tk × Nat × Int).1.length ≤ _
    split
    · simp
    · split
      · simp
      · split
        · omega
        · simp; omega
theorem tokens_len2 (l : List UInt8) : (tokens l).1.length ≤ l.length + 1 := by
  unfold tokens
  split
  · simp
  · exact tokens_len l (l.length + 1) 0
theorem blank_cases (c : UInt8) (h : isBl c = true) : (((c.toNat : Int) != 32) = false) ∨ (((c.toNat : Int) != 32) = true ∧ ((c.toNat : Int) != 9) = false) ∨ (((c.toNat : Int) != 32) = true ∧ ((c.toNat : Int) != 9) = true ∧ ((c.toNat : Int) != 10) = false) ∨ (((c.toNat : Int) != 32) = true ∧ ((c.toNat : Int) != 9) = true ∧ ((c.toNat : Int) != 10) = true ∧ ((c.toNat : Int) != 13) = false) := by
  unfold isBl at h
  simp only [Bool.or_eq_true, beq_iff_eq] at h
  rcases h with ((rfl | rfl) | rfl) | rfl
  · exact .inl rfl
  · exact .inr (.inl ⟨rfl, rfl⟩)
  · exact .inr (.inr (.inl ⟨rfl, rfl, rfl⟩))
  · exact .inr (.inr (.inr ⟨rfl, rfl, rfl, rfl⟩))
end Go.Proofs.YtkcbkfflabkcgaaDoor
