/-
  Plain law: a string within its marks, read byte by byte. No program is in sight.
-/
import Derived.Test.YtkcbkfflabkcgaaDoorKp
namespace Go.Proofs.YtkcbkfflabkcgaaDoor
open Go

def pre (o : List UInt8) (n : Nat) : Except Int (List UInt8 × Nat) → Except Int (List UInt8 × Nat)
  | .ok x => .ok (o ++ x.1, n + x.2)
  | .error e => .error e
theorem pre_nil (x : Except Int (List UInt8 × Nat)) : pre [] 0 x = x := by
  cases x with
  | ok y => obtain ⟨a, b⟩ := y; show Except.ok (a, 0 + b) = _; rw [Nat.zero_add]
  | error e => rfl
theorem pre_pre (a b : List UInt8) (m n : Nat) (x : Except Int (List UInt8 × Nat)) : pre a m (pre b n x) = pre (a ++ b) (m + n) x := by
  cases x with
  | ok y => show Except.ok (a ++ (b ++ y.1), m + (n + y.2)) = Except.ok ((a ++ b) ++ y.1, m + n + y.2); rw [List.append_assoc, Nat.add_assoc]
  | error e => rfl
theorem drop_at {l : List UInt8} {k : Nat} {c : UInt8} (h : l[k]? = some c) : l.drop k = c :: l.drop (k + 1) := by
  obtain ⟨hk, e⟩ := List.getElem?_eq_some_iff.1 h
  rw [List.drop_eq_getElem_cons hk, e]
theorem marks_end {l : List UInt8} {k : Nat} (h : l.length ≤ k) : inMarks (l.drop k) = .error 14 := by
  rw [List.drop_eq_nil_of_le h]; rfl
theorem marks_quote {l : List UInt8} {k : Nat} (h : l[k]? = some 34) : inMarks (l.drop k) = .ok ([], 1) := by
  rw [drop_at h, inMarks.eq_def]; rfl
theorem marks_esc_end {l : List UInt8} {k : Nat} (h : l[k]? = some 92) (h1 : l.length ≤ k + 1) : inMarks (l.drop k) = .error 14 := by
  rw [drop_at h, List.drop_eq_nil_of_le h1, inMarks.eq_def]; rfl
theorem marks_esc_bad {l : List UInt8} {k : Nat} {d : UInt8} (h : l[k]? = some 92) (h1 : l[k + 1]? = some d) (h2 : d ≠ 34) (h3 : d ≠ 92) : inMarks (l.drop k) = .error 5 := by
  rw [drop_at h, drop_at h1, inMarks.eq_def]
  dsimp only
  rw [if_neg (by decide), if_pos rfl, if_neg (by rintro (e | e) <;> contradiction)]
theorem marks_esc {l : List UInt8} {k : Nat} {d : UInt8} (h : l[k]? = some 92) (h1 : l[k + 1]? = some d) (h2 : d = 34 ∨ d = 92) : inMarks (l.drop k) = pre [d] 2 (inMarks (l.drop (k + 2))) := by
  rw [drop_at h, drop_at h1, inMarks.eq_def]
  dsimp only
  rw [if_neg (by decide), if_pos rfl, if_pos h2]
  cases inMarks (l.drop (k + 2)) with
  | ok x => show Except.ok (d :: x.1, x.2 + 2) = Except.ok (d :: x.1, 2 + x.2); rw [Nat.add_comm]
  | error e => rfl
theorem marks_plain {l : List UInt8} {k : Nat} {c : UInt8} (h : l[k]? = some c) (h2 : c ≠ 34) (h3 : c ≠ 92) : inMarks (l.drop k) = pre [c] 1 (inMarks (l.drop (k + 1))) := by
  rw [drop_at h, inMarks.eq_def]
  dsimp only
  rw [if_neg h2, if_neg h3]
  cases inMarks (l.drop (k + 1)) with
  | ok x => show Except.ok (c :: x.1, x.2 + 1) = Except.ok (c :: x.1, 1 + x.2); rw [Nat.add_comm]
  | error e => rfl

/-- what has been read up to k, put before what is still to be read -/
def Marked (l : List UInt8) (a k : Nat) (o : List UInt8) : Prop := inMarks (l.drop (a + 1)) = pre o (k - (a + 1)) (inMarks (l.drop k)) ∧ a + 1 ≤ k ∧ o.length + a + 1 ≤ k
theorem Marked.start (l : List UInt8) (a : Nat) : Marked l a (a + 1) [] := ⟨by rw [Nat.sub_self, pre_nil], Nat.le_refl _, by simp⟩
theorem Marked.plain {l : List UInt8} {a k : Nat} {o : List UInt8} (h : Marked l a k o) {c : UInt8} (hc : l[k]? = some c) (h2 : c ≠ 34) (h3 : c ≠ 92) : Marked l a (k + 1) (o ++ [c]) := by
  obtain ⟨h1, hk, ho⟩ := h
  refine ⟨?_, by omega, by simp; omega⟩
  rw [h1, marks_plain hc h2 h3, pre_pre]
  congr 1
  omega
theorem Marked.esc {l : List UInt8} {a k : Nat} {o : List UInt8} (h : Marked l a k o) {c : UInt8} (hb : l[k]? = some 92) (hc : l[k + 1]? = some c) (h2 : c = 34 ∨ c = 92) : Marked l a (k + 2) (o ++ [c]) := by
  obtain ⟨h1, hk, ho⟩ := h
  refine ⟨?_, by omega, by simp; omega⟩
  rw [h1, marks_esc hb hc h2, pre_pre]
  congr 1
  omega
theorem strS_err {l : List UInt8} {a : Nat} {e : Int} (h : inMarks (l.drop (a + 1)) = .error e) : strS l a = (noTk, e) := by
  unfold strS; rw [h]
theorem Marked.torn {l : List UInt8} {a k : Nat} {o : List UInt8} (h : Marked l a k o) (hk : l.length ≤ k) : strS l a = (noTk, 14) := by
  apply strS_err; rw [h.1, marks_end hk]; rfl
theorem Marked.torn1 {l : List UInt8} {a k : Nat} {o : List UInt8} (h : Marked l a k o) (hb : l[k]? = some 92) (hk : l.length ≤ k + 1) : strS l a = (noTk, 14) := by
  apply strS_err; rw [h.1, marks_esc_end hb hk]; rfl
theorem Marked.form {l : List UInt8} {a k : Nat} {o : List UInt8} (h : Marked l a k o) {d : UInt8} (hb : l[k]? = some 92) (h1 : l[k + 1]? = some d) (h2 : d ≠ 34) (h3 : d ≠ 92) : strS l a = (noTk, 5) := by
  apply strS_err; rw [h.1, marks_esc_bad hb h1 h2 h3]; rfl
theorem Marked.shut {l : List UInt8} {a k : Nat} {o : List UInt8} (h : Marked l a k o) (hb : l[k]? = some 34) : strS l a = if 200 < o.length then (noTk, 3) else (⟨4, a, k + 1, 0, 0, o⟩, 0) := by
  have hq : inMarks (l.drop (a + 1)) = .ok (o, k - (a + 1) + 1) := by
    rw [h.1, marks_quote hb]; show Except.ok (o ++ [], _) = _; rw [List.append_nil]
  have hk := h.2.1
  unfold strS
  rw [hq]
  simp only
  rw [show a + 1 + (k - (a + 1) + 1) = k + 1 by omega]
end Go.Proofs.YtkcbkfflabkcgaaDoor
