/-
  Q3 in one text.
-/
import Derived.IntWalk
import Derived.Laws.Bits64b
import Derived.Laws.FloatBits
import Derived.Lib.AtoiAll
import Derived.Lib.IndexMore
import Derived.Lib.ItoaNum
import Derived.Lib.ParseIntB
import Ieee.Arith
import Derived.Test.YtnaamiecljinnaaGreatS00
import Derived.Test.YtnaamiecljinnaaGreatS01
import Derived.Test.YtnaamiecljinnaaGreatS03
namespace Go.Proofs.YtnaamiecljinnaaGreat
open Go
theorem rdItems_enc (rv : Nat → List UInt8 → Option (VT × Nat × List UInt8)) (named : Bool) :
    ∀ (its : List VT) (ns : List (List UInt8)) (p : Nat) (r : List UInt8), (named = true → ns.length = its.length ∧ ∀ s ∈ ns, s.length ≤ 30) → (named = false → ns = []) →
      (∀ v ∈ its, ∀ q r, q + psz v ≤ p + pszL its → rv q (encV v ++ r) = some (canV v, q + psz v, r)) →
      rdItems rv named its.length p (encL named ns its ++ r) = some (ns, canL its, p + pszL its, r)
  | [], ns, p, r, h1, h2, h3 => by
    have : ns = [] := by
      cases named
      · exact h2 rfl
      · exact List.length_eq_zero_iff.1 (h1 rfl).1
    subst this
    rfl
  | x :: xs, ns, p, r, h1, h2, h3 => by
    have hx := fun r => h3 x (List.mem_cons_self ..) p r (by rw [pszL]; omega)
    cases named
    · have hn := h2 rfl
      subst hn
      have ih := rdItems_enc rv false xs [] (p + psz x) r (fun h => by cases h) (fun _ => rfl) (fun v hv q r hq => h3 v (List.mem_cons_of_mem _ hv) q r (by rw [pszL]; omega))
      rw [List.length_cons, rdItems, encL]
      simp only [Bool.false_eq_true, if_false, List.nil_append, List.append_assoc, hx]
      rw [show ([] : List (List UInt8)).tail = [] from rfl, ih]
      simp only [canL, pszL, Nat.add_assoc]
    · obtain ⟨hl, hs⟩ := h1 rfl
      obtain ⟨n, ns, rfl⟩ : ∃ n m, ns = n :: m := by
        cases ns with
        | nil => simp at hl
        | cons n m => exact ⟨n, m, rfl⟩
      have hn := hs n (List.mem_cons_self ..)
      have ih := rdItems_enc rv true xs ns (p + psz x) r (fun _ => ⟨by simpa using hl, fun s h => hs s (List.mem_cons_of_mem _ h)⟩) (fun h => by cases h) (fun v hv q r hq => h3 v (List.mem_cons_of_mem _ hv) q r (by rw [pszL]; omega))
      rw [List.length_cons, rdItems, encL]
      simp only [if_true, List.headD_cons, List.tail_cons, List.append_assoc]
      rw [rdStr_enc n _ hn (by omega)]
      simp only [hx, ih]
      simp only [canL, pszL, Nat.add_assoc]
theorem inL_mem : ∀ {l : List VT}, inL l → ∀ v ∈ l, inV v
  | [], _, v, h => by cases h
  | x :: xs, h, v, hv => by
    rw [inL] at h
    rcases List.mem_cons.1 hv with rfl | hv
    · exact h.1
    · exact inL_mem h.2 v hv
theorem right_lists {k n : Int} {f : Nat} {s : List UInt8} {ns : List (List UInt8)} {its : List VT} {far : Nat} (hk : k = 5 ∨ k = 6) (h : rightV (.mk k n f s ns its) far = true) :
    f = 0 ∧ n = 0 ∧ s = [] ∧ rightL its (far - 1) = true ∧ 0 < far ∧ (k = 5 → ns = []) ∧ (k = 6 → risesB ns = true ∧ ns.length = its.length) := by
  rw [rightV] at h
  split at h
  · cases h
  rename_i hfar
  have hfar' : 0 < far := by omega
  rcases hk with rfl | rfl
  · simp only [if_false, if_true, show (5 : Int) ≠ 1 by decide, show (5 : Int) ≠ 2 by decide, show (5 : Int) ≠ 3 by decide, show (5 : Int) ≠ 4 by decide, Bool.and_eq_true, List.isEmpty_iff, decide_eq_true_eq, zeroB] at h
    obtain ⟨⟨⟨⟨h1, h2⟩, h3⟩, h4⟩, h5⟩ := h
    exact ⟨canon_zero h1, h2, h3, h5, hfar', fun _ => h4, (fun h => by cases h)⟩
  · simp only [if_false, if_true, show (6 : Int) ≠ 1 by decide, show (6 : Int) ≠ 2 by decide, show (6 : Int) ≠ 3 by decide, show (6 : Int) ≠ 4 by decide, show (6 : Int) ≠ 5 by decide, Bool.and_eq_true, List.isEmpty_iff, decide_eq_true_eq, zeroB] at h
    obtain ⟨⟨⟨⟨h1, h2⟩, h3⟩, h4⟩, h5⟩ := h
    exact ⟨canon_zero h1, h2, h3, h5, hfar', (fun h => by cases h), fun _ => h4⟩
/-- written and read -/
theorem rdV_enc : ∀ (far : Nat) (v : VT) (p : Nat) (r : List UInt8), rightV v far = true → inV v → p + psz v ≤ 200 → rdV far p (encV v ++ r) = some (canV v, p + psz v, r)
  | 0, v, p, r, h, _, _ => by
    cases v with
    | mk k n f s ns its => rw [rightV, if_pos (by omega)] at h; cases h
  | far + 1, .mk k n f s ns its, p, r, h, hin, hp => by
    have hp0 : p < 200 := by rw [psz] at hp; omega
    have hpz := pszL_ge its
    rw [psz] at hp
    rw [encV, List.cons_append, rdV_step _ _ hp0]
    rw [inV] at hin
    obtain ⟨_, hn, hf, hins⟩ := hin
    have hk := right_kind h
    have hk' : k = 1 ∨ k = 2 ∨ k = 3 ∨ k = 4 ∨ k = 5 ∨ k = 6 := hk
    clear hk
    rcases hk' with rfl | rfl | rfl | rfl | hk
    · rw [rightV, if_neg (by omega)] at h
      simp only [if_true, Bool.and_eq_true, List.isEmpty_iff, decide_eq_true_eq, zeroB] at h
      obtain ⟨⟨⟨⟨h1, h2⟩, h3⟩, h4⟩, h5⟩ := h
      have h3 := canon_zero h3
      subst h1 h2 h3 h4
      rcases h5 with rfl | rfl <;> rfl
    · rw [rightV, if_neg (by omega)] at h
      simp only [if_true, if_false, show (2 : Int) ≠ 1 by decide, Bool.and_eq_true, List.isEmpty_iff, decide_eq_true_eq, zeroB] at h
      obtain ⟨⟨⟨h1, h2⟩, h3⟩, h4⟩ := h
      have h3 := canon_zero h3
      subst h1 h2 h3 h4
      rw [if_neg (by decide), if_pos (by decide)]
      simp only [if_true, if_false, show (2 : Int) ≠ 1 by decide]
      unfold rdInt
      rw [rdU_enc r (zig_lt hn)]
      simp only [zag_zig, canV, canL, psz, pszL, show canon 0 = 0 from rfl]
    · rw [rightV, if_neg (by omega)] at h
      simp only [if_true, if_false, show (3 : Int) ≠ 1 by decide, show (3 : Int) ≠ 2 by decide, Bool.and_eq_true, List.isEmpty_iff, decide_eq_true_eq] at h
      obtain ⟨⟨⟨h1, h2⟩, h3⟩, h4⟩ := h
      subst h1 h2 h3 h4
      rw [if_neg (by decide), if_neg (by decide), if_pos (by decide)]
      simp only [if_true, if_false, show (3 : Int) ≠ 1 by decide, show (3 : Int) ≠ 2 by decide]
      unfold rdFlt
      have hl : (fltE (canon f)).length = 8 := rfl
      rw [if_neg (by rw [List.length_append, hl]; omega), List.take_left' hl, List.drop_left' hl, beN_fltE _ (canon_F64 hf).out, if_pos (canon_canon f)]
      rfl
    · rw [rightV, if_neg (by omega)] at h
      simp only [if_true, if_false, show (4 : Int) ≠ 1 by decide, show (4 : Int) ≠ 2 by decide, show (4 : Int) ≠ 3 by decide, Bool.and_eq_true, List.isEmpty_iff, decide_eq_true_eq, zeroB] at h
      obtain ⟨⟨⟨⟨h1, h2⟩, h3⟩, h4⟩, h5⟩ := h
      have h3 := canon_zero h3
      subst h1 h2 h3 h4
      rw [if_neg (by decide), if_neg (by decide), if_neg (by decide), if_pos (by decide)]
      simp only [if_true, if_false, show (4 : Int) ≠ 1 by decide, show (4 : Int) ≠ 2 by decide, show (4 : Int) ≠ 3 by decide]
      rw [rdStr_enc s r h5 (by omega)]
      rfl
    · obtain ⟨rfl, rfl, rfl, hr, hfar, h5, h6⟩ := right_lists hk h
      have ha := rdItems_enc (rdV far) (decide (k = 6)) its ns (p + 1) r
        (fun hd => by
          obtain ⟨a, b⟩ := h6 (of_decide_eq_true hd)
          exact ⟨b, rises_len a⟩)
        (fun hd => h5 (by have := of_decide_eq_false hd; omega))
        (fun v hv q r hq => rdV_enc far v q r (rightL_mem hr v hv) (inL_mem hins v hv) (by omega))
      have hlen : its.length < 18446744073709551616 := by omega
      have hkk : (UInt8.ofNat k.toNat).toNat = k.toNat := by rcases hk with rfl | rfl <;> rfl
      have hd : decide (k.toNat = 6) = decide (k = 6) := by rcases hk with rfl | rfl <;> rfl
      rw [hkk, if_neg (by omega), if_neg (by omega), if_neg (by omega), if_neg (by omega), if_pos (by omega), if_neg (by omega), if_neg (by omega), if_neg (by omega), if_neg (by omega), List.append_assoc, rdU_enc _ hlen, hd]
      simp only
      rw [if_neg (by omega), ha]
      simp only [Option.some.injEq, Prod.mk.injEq, canV, psz, show canon 0 = 0 from rfl, VT.mk.injEq, and_true]
      omega
theorem rdVal_enc {v : VT} (r : List UInt8) (h : rightB v = true) (hin : inV v) (hc : rightB (canV v) = true) : rdVal (encV v ++ r) = some (canV v, r) := by
  obtain ⟨h1, h2⟩ := (rightB_iff v).1 h
  unfold rdVal
  rw [rdV_enc 12 v 0 r h2 hin (by omega)]
  simp only [hc, if_true]
end Go.Proofs.YtnaamiecljinnaaGreat
