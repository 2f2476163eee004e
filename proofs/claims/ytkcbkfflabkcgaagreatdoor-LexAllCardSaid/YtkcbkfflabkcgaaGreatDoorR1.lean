/-
  Walks of the references' parts, Digits and Text.
-/
import Derived.Test.YtkcbkfflabkcgaaGreatDoorW6
import Derived.Test.YtkcbkfflabkcgaaGreatDoorFd
namespace Go.Proofs.YtkcbkfflabkcgaaGreatDoor
open Go.RowKit

theorem shl12 (b : Nat) : IntKind.u64.wrap ((b : Int) * 4096) / 4096 = ((Fl.rg b % 4503599627370496 : Nat) : Int) := by
  rw [IntKind.wrap_u64]
  unfold Fl.rg
  omega
theorem shl1 (b : Nat) : IntKind.u64.wrap ((b : Int) * 2) / 9007199254740992 = ((Fl.rg b / 4503599627370496 : Nat) : Int) := by
  rw [bits_shl]
  omega

def partsN (r : Nat) : Nat := if r = 0 then 0 else txtN r
def partsE (r : Nat) : Int := if r = 0 then 0 else txtE r

theorem parts_ret (m : Nat) (x y : Int) (h : x = y) : Value.tuple #[.int .u64 m, .int .i64 x] = .tuple #[.int .u64 m, .int .i64 y] := by rw [h]
theorem strip_step {n m k : Nat} (h : m % 2 = 0) (e : Hid (n = m * 2 ^ k)) : Hid (n = (m / 2) * 2 ^ (k + 1)) := by
  show _ = _
  rw [e.out, Nat.pow_succ, Nat.mul_comm (2 ^ k) 2, ← Nat.mul_assoc]
  congr 1; omega
theorem strip_bounds {n m j : Nat} (hn : n ≤ 9007199254740992) (hm : 1 ≤ m) (e : n = m * 2 ^ j) : m ≤ 9007199254740992 ∧ j ≤ 53 := by
  have hp := Nat.two_pow_pos j
  constructor
  · have : m ≤ m * 2 ^ j := Nat.le_mul_of_pos_right _ hp
    omega
  · have h2 : 2 ^ j ≤ m * 2 ^ j := Nat.le_mul_of_pos_left _ hm
    have h3 : 2 ^ j ≤ 2 ^ 53 := by omega
    exact (Nat.pow_le_pow_iff_right (by omega : 1 < 2)).1 h3

/-- one more digit ahead -/
theorem dig_step {n0 m : Nat} {t : List UInt8} (h : Hid (Lib.decDigits n0 = Lib.decDigits m ++ t)) (hm : 10 ≤ m) : Hid (Lib.decDigits n0 = Lib.decDigits (m / 10) ++ (UInt8.ofNat (48 + m % 10) :: t)) := by
  show _ = _
  rw [h.out]
  conv => lhs; rw [Lib.decDigits, dif_neg (by omega)]
  simp
theorem dig_last {n0 m : Nat} {t : List UInt8} (h : Hid (Lib.decDigits n0 = Lib.decDigits m ++ t)) (hm : m < 10) : Lib.decDigits n0 = UInt8.ofNat (48 + m % 10) :: t := by
  rw [h.out]
  conv => lhs; rw [Lib.decDigits, dif_pos hm]
  rw [show m % 10 = m by omega]; rfl
theorem dig_len {n0 m : Nat} {t : List UInt8} (h : Hid (Lib.decDigits n0 = Lib.decDigits m ++ t)) (hn : n0 < 18446744073709551616) : t.length ≤ 20 := by
  have := dec_len n0 hn
  rw [h.out, List.length_append] at this; omega
theorem join1 (c : UInt8) (t : List UInt8) : Value.string (({ data := #[c] } : ByteArray) ++ { data := t.toArray }) = .string ⟨(c :: t).toArray⟩ := by
  congr 1

theorem conv_one (m : Nat) (wr : World) : (convert 55 9 (.slice (some ⟨wr.heap.size, 0, none⟩) 1 1)).run Tryz.prog (wr.alloc (.cells #[.int .u8 (48 + (m : Int) % 10)] 5)) = .ok (.string ⟨#[UInt8.ofNat (48 + m % 10)]⟩) (wr.alloc (.cells #[.int .u8 (48 + (m : Int) % 10)] 5)) := by
  have h := run_convert_bytes_back (P := Tryz.prog) (wr.alloc (.cells #[.int .u8 (48 + (m : Int) % 10)] 5)) 55 9 5 ⟨wr.heap.size, 0, none⟩ 1 [UInt8.ofNat (48 + m % 10)] Tryz.underlying55 Tryz.underlying5 Tryz.underlying9 (fun j hj => by
    have : j = 0 := by simpa using hj
    subst this
    rw [Lib.add_plain, World.cell?_alloc_new]
    simp only [List.getElem_cons_zero]
    rw [dig_ofNat (show m % 10 < 10 by omega)]
    simp)
  exact h

theorem parts_bounds {r : Nat} (h : r < 9218868437227405312) : partsN r < 9007199254740992 ∧ -1074 ≤ partsE r ∧ partsE r ≤ 1023 := by
  unfold partsN partsE
  by_cases h0 : r = 0
  · rw [if_pos h0, if_pos h0]; omega
  · rw [if_neg h0, if_neg h0]
    obtain ⟨a, b, c, _⟩ := txt_bounds h0 h
    have := c.1; have := c.2
    omega
theorem textB_parts {b : Nat} (h : Fl.rg b < 9218868437227405312) : textB b = (if Fl.ng b then [45] else []) ++ (Lib.decDigits (partsN (Fl.rg b)) ++ 112 :: Lib.itoa (partsE (Fl.rg b))) := by
  have hn : Fl.isNaN b = false := by unfold Fl.isNaN; simp; omega
  unfold textB partsN partsE
  rw [hn, if_neg (show Fl.rg b ≠ 9218868437227405312 by omega)]
  by_cases h0 : Fl.rg b = 0
  · rw [if_pos h0, if_pos h0, if_pos h0]
    have e0 : Lib.decDigits 0 = [48] := by rw [Lib.decDigits]; rfl
    have e1 : Lib.itoa 0 = [48] := by unfold Lib.itoa; rw [if_neg (by omega), show (0 : Int).toNat = 0 from rfl, e0]
    rw [e0, e1]; rfl
  · rw [if_neg h0, if_neg h0, if_neg h0]; rfl
theorem itoa_neg' (k : Nat) (h : 1 ≤ k) : Lib.itoa (-(k : Int)) = 45 :: Lib.decDigits k := by
  unfold Lib.itoa; rw [if_pos (by omega)]; congr 2; omega
theorem itoa_pos' (k : Nat) : Lib.itoa (k : Int) = Lib.decDigits k := by
  unfold Lib.itoa; rw [if_neg (by omega)]; rfl
theorem join_neg (p a c : List UInt8) : Value.string ((({ data := p.toArray } ++ { data := a.toArray } ++ { data := #[112] } : ByteArray) ++ { data := #[45] }) ++ { data := c.toArray }) = .string ⟨(p ++ (a ++ 112 :: 45 :: c)).toArray⟩ := by
  congr 1
  apply ByteArray.ext
  simp

end Go.Proofs.YtkcbkfflabkcgaaGreatDoor
