/-
  Fl, Fp, Kp, V1, V2, Q2, U0, W1, V3, V4, V5, C1, U1 in one text.
-/
import Derived.Below
import Derived.BigQuiet
import Derived.Deep.Cut
import Derived.Deep.QuietTactic
import Derived.Handy
import Derived.IntWalk
import Derived.Laws.Bits64b
import Derived.Laws.FloatBits
import Derived.Lib.AtoiAll
import Derived.Lib.Builder
import Derived.Lib.Bytes
import Derived.Lib.ConvBytes
import Derived.Lib.FrozenHead2
import Derived.Lib.Hide
import Derived.Lib.IndexMore
import Derived.Lib.ItoaNum
import Derived.Lib.MinMax
import Derived.Lib.OthersKept
import Derived.Lib.ParseIntB
import Derived.Lib.UnsafeStr
import Derived.LoopTactic
import Derived.OneCell
import Derived.OwnWalk
import Derived.RegionTactic
import Derived.Tactics
import Derived.Tactics2
import Derived.Test.YthponidjednfbaaGreatDoorChecked
import Derived.WalkKit
import Derived.WalkLawsBesides
import Derived.WalkSpells
import Ieee.Arith
namespace Go.Proofs.YthponidjednfbaaGreatDoor
section
namespace Fl
open Ieee
theorem sW : double.signWeight = 9223372036854775808 := by decide
theorem bW : double.binade = 4503599627370496 := by decide
theorem iR : double.infRung = 9218868437227405312 := by decide
theorem lP : double.leastPlace = -1074 := by decide
/-- the magnitude's two parts, of a rung -/
def mag (r : Nat) : Nat := if r < 4503599627370496 then r else 4503599627370496 + r % 4503599627370496
def plc (r : Nat) : Nat := if r < 4503599627370496 then 0 else r / 4503599627370496 - 1
def ng (b : Nat) : Bool := b / 9223372036854775808 % 2 == 1
def rg (b : Nat) : Nat := b % 9223372036854775808
theorem read_fin {b : Nat} (h : rg b < 9218868437227405312) : double.read b = .number (ng b) (mag (rg b)) (-1074 + (plc (rg b) : Int)) := by
  unfold rg at h
  unfold Format.read mag plc ng rg
  simp only [sW, bW, iR, lP]
  split
  · simp
  · simp
theorem read_inf {b : Nat} (h : rg b = 9218868437227405312) : double.read b = .infinity (ng b) := by
  unfold rg at h
  unfold Format.read ng
  simp only [sW, bW, iR, lP, h]
  simp
theorem read_nan {b : Nat} (h : 9218868437227405312 < rg b) : double.read b = .nan (ng b) (rg b - 9218868437227405312) := by
  unfold rg at h
  unfold Format.read ng rg
  simp only [sW, bW, iR, lP]
  rw [if_neg (by omega), if_neg (by omega), if_neg (by omega)]
theorem mag_lt (r : Nat) : mag r < 9007199254740992 := by unfold mag; split <;> omega
/-- the magnitude as a whole number of least units -/
def M (r : Nat) : Nat := mag r * 2 ^ plc r
theorem mag_norm {r : Nat} (h : 0 < plc r) : 4503599627370496 ≤ mag r := by
  unfold plc at h; unfold mag; split at h
  · omega
  · rw [if_neg (by omega)]; omega
theorem rung_eq (r : Nat) : r = plc r * 4503599627370496 + mag r := by
  unfold plc mag; split
  · omega
  · omega
theorem M_mono {r s : Nat} (h : r < s) : M r < M s := by
  unfold M
  have e1 := rung_eq r; have e2 := rung_eq s
  have m1 := mag_lt r; have m2 := mag_lt s
  by_cases hp : plc r = plc s
  · rw [hp]; exact Nat.mul_lt_mul_of_pos_right (by omega) (Nat.two_pow_pos _)
  · have hlt : plc r < plc s := by
      by_cases g : 0 < plc r
      · have := mag_norm g; omega
      · omega
    have hm := mag_norm (show 0 < plc s by omega)
    obtain ⟨d, hd⟩ : ∃ d, plc s = plc r + 1 + d := ⟨plc s - plc r - 1, by omega⟩
    rw [hd, Nat.pow_add, Nat.pow_succ]
    have hp := Nat.two_pow_pos (plc r)
    have hd := Nat.two_pow_pos d
    calc mag r * 2 ^ plc r < 9007199254740992 * 2 ^ plc r := Nat.mul_lt_mul_of_pos_right m1 hp
      _ ≤ mag s * (2 ^ plc r * 2) := by
        rw [Nat.mul_comm (2 ^ plc r) 2, ← Nat.mul_assoc]; exact Nat.mul_le_mul_right _ (by omega)
      _ ≤ mag s * (2 ^ plc r * 2 * 2 ^ d) := Nat.mul_le_mul_left _ (Nat.le_mul_of_pos_right _ hd)
theorem M_lt_iff {r s : Nat} : M r < M s ↔ r < s := by
  constructor
  · intro h; rcases Nat.lt_trichotomy r s with g | g | g
    · exact g
    · subst g; omega
    · have := M_mono g; omega
  · exact M_mono
theorem M_zero : M 0 = 0 := by decide
/-- the place of a float in the row of numbers; the two zeros have one -/
def K (b : Nat) : Int := if ng b then -(rg b : Int) else rg b
def isNaN (b : Nat) : Bool := decide (9218868437227405312 < rg b)
theorem cmp_int (x y : Int) : compare x y = if x < y then .lt else if x = y then .eq else .gt := rfl
theorem signed_eq (s : Bool) (m u : Nat) : signed s m u = if s then -((m * 2 ^ u : Nat) : Int) else ((m * 2 ^ u : Nat) : Int) := by
  unfold signed; simp [Nat.shiftLeft_eq]
theorem signed_lt_iff (s t : Bool) (m n u v c : Nat) :
    (signed s m u < signed t n v ↔ signed s m (u + c) < signed t n (v + c)) ∧ (signed s m u = signed t n v ↔ signed s m (u + c) = signed t n (v + c)) := by
  have hc : (0 : Int) < ((2 ^ c : Nat) : Int) := by have := Nat.two_pow_pos c; omega
  have e : ∀ (s : Bool) (m u : Nat), signed s m (u + c) = signed s m u * ((2 ^ c : Nat) : Int) := by
    intro s m u
    rw [signed_eq, signed_eq]
    have : m * 2 ^ (u + c) = m * 2 ^ u * 2 ^ c := by rw [Nat.pow_add, Nat.mul_assoc]
    rw [this, Int.natCast_mul (m * 2 ^ u)]
    split
    · rw [Int.neg_mul]
    · rfl
  rw [e, e]
  constructor
  · constructor
    · intro h; exact Int.mul_lt_mul_of_pos_right h hc
    · intro h; exact Int.lt_of_mul_lt_mul_right h (Int.le_of_lt hc)
  · constructor
    · intro h; rw [h]
    · intro h; exact Int.eq_of_mul_eq_mul_right (by omega) h
/-- the value of a finite float in least units -/
def V (b : Nat) : Int := signed (ng b) (mag (rg b)) (plc (rg b))
theorem V_eq (b : Nat) : V b = if ng b then -(M (rg b) : Int) else (M (rg b) : Int) := by
  unfold V; rw [signed_eq]; rfl
theorem V_lt_iff (a b : Nat) : V a < V b ↔ K a < K b := by
  rw [V_eq, V_eq]; unfold K
  have h1 := @M_lt_iff (rg a) (rg b); have h2 := @M_lt_iff (rg b) (rg a)
  have z1 := @M_lt_iff 0 (rg a); have z2 := @M_lt_iff 0 (rg b)
  rw [M_zero] at z1 z2
  split <;> split <;> omega
theorem V_eq_iff (a b : Nat) : V a = V b ↔ K a = K b := by
  have h1 := V_lt_iff a b; have h2 := V_lt_iff b a; omega
theorem order_num {a b : Nat} (ha : rg a < 9218868437227405312) (hb : rg b < 9218868437227405312) :
    double.order a b = some (compare (K a) (K b)) := by
  unfold Format.order
  rw [read_fin ha, read_fin hb]
  unfold Datum.order
  simp only
  congr 1
  generalize hi : (-1074 + (plc (rg a) : Int)) = i
  generalize hj : (-1074 + (plc (rg b) : Int)) = j
  have s1 := signed_lt_iff (ng a) (ng b) (mag (rg a)) (mag (rg b)) (i - min i j).toNat (j - min i j).toNat (min i j + 1074).toNat
  rw [show (i - min i j).toNat + (min i j + 1074).toNat = plc (rg a) from by omega, show (j - min i j).toNat + (min i j + 1074).toNat = plc (rg b) from by omega] at s1
  have v1 := V_lt_iff a b; have v2 := V_eq_iff a b
  unfold V at v1 v2
  rw [cmp_int, cmp_int]
  by_cases g1 : K a < K b
  · rw [if_pos (s1.1.2 (v1.2 g1)), if_pos g1]
  · rw [if_neg (fun h => g1 (v1.1 (s1.1.1 h))), if_neg g1]
    by_cases g2 : K a = K b
    · rw [if_pos (s1.2.2 (v2.2 g2)), if_pos g2]
    · rw [if_neg (fun h => g2 (v2.1 (s1.2.1 h))), if_neg g2]
theorem order_some {a b : Nat} (ha : isNaN a = false) (hb : isNaN b = false) : double.order a b = some (compare (K a) (K b)) := by
  unfold isNaN at ha hb
  simp only [decide_eq_false_iff_not, Nat.not_lt] at ha hb
  by_cases h1 : rg a < 9218868437227405312
  · by_cases h2 : rg b < 9218868437227405312
    · exact order_num h1 h2
    · unfold Format.order
      rw [read_fin h1, read_inf (show rg b = _ by omega)]
      unfold Datum.order; simp only; congr 1
      rw [cmp_int]; unfold K
      cases hng : ng b <;> simp only [Bool.false_eq_true, if_false, if_true]
      · rw [if_pos (by split <;> omega)]
      · rw [if_neg (by split <;> omega), if_neg (by split <;> omega)]
  · by_cases h2 : rg b < 9218868437227405312
    · unfold Format.order
      rw [read_fin h2, read_inf (show rg a = _ by omega)]
      unfold Datum.order; simp only; congr 1
      rw [cmp_int]; unfold K
      cases hng : ng a <;> simp only [Bool.false_eq_true, if_false, if_true]
      · rw [if_neg (by split <;> omega), if_neg (by split <;> omega)]
      · rw [if_pos (by split <;> omega)]
    · unfold Format.order
      rw [read_inf (show rg a = _ by omega), read_inf (show rg b = _ by omega)]
      unfold Datum.order; simp only; congr 1
      rw [cmp_int]; unfold K
      rw [show rg a = 9218868437227405312 from by omega, show rg b = 9218868437227405312 from by omega]
      cases ng a <;> cases ng b <;> decide
theorem order_nan_left {a : Nat} (b : Nat) (h : isNaN a = true) : double.order a b = none := by
  unfold isNaN at h; simp only [decide_eq_true_eq] at h
  unfold Format.order; rw [read_nan h]; unfold Datum.order; cases double.read b <;> rfl
theorem order_nan_right (a : Nat) {b : Nat} (h : isNaN b = true) : double.order a b = none := by
  unfold isNaN at h; simp only [decide_eq_true_eq] at h
  unfold Format.order; rw [read_nan h]; unfold Datum.order; cases double.read a <;> rfl
/-- Go's comparisons, as plain ones -/
def feq (a b : Nat) : Bool := !isNaN a && !isNaN b && decide (K a = K b)
def flt (a b : Nat) : Bool := !isNaN a && !isNaN b && decide (K a < K b)
theorem order_eq (a b : Nat) : (double.order a b == some .eq) = feq a b := by
  unfold feq
  cases ha : isNaN a
  · cases hb : isNaN b
    · rw [order_some ha hb, cmp_int]
      by_cases g : K a = K b
      · simp [g]
      · by_cases g1 : K a < K b <;> simp [g, g1]
    · simp [order_nan_right a hb]
  · simp [order_nan_left b ha]
theorem order_lt (a b : Nat) : (double.order a b == some .lt) = flt a b := by
  unfold flt
  cases ha : isNaN a
  · cases hb : isNaN b
    · rw [order_some ha hb, cmp_int]
      by_cases g1 : K a < K b
      · simp [g1]
      · by_cases g : K a = K b <;> simp [g, g1]
    · simp [order_nan_right a hb]
  · simp [order_nan_left b ha]
theorem order_gt (a b : Nat) : (double.order a b == some .gt) = flt b a := by
  unfold flt
  cases ha : isNaN a
  · cases hb : isNaN b
    · rw [order_some ha hb, cmp_int]
      by_cases g1 : K a < K b
      · have : ¬ K b < K a := by omega
        simp [g1, this]
      · by_cases g : K a = K b
        · simp [g]
        · have : K b < K a := by omega
          simp [g, g1, this]
    · simp [order_nan_right a hb]
  · simp [order_nan_left b ha]
end Fl
end
section
/-- a word of 64 bits -/
def F64 (b : Nat) : Prop := b < 18446744073709551616
theorem F64.out {b : Nat} (h : F64 b) : b < 18446744073709551616 := h
def cnan : Nat := 9221120237041090560
def canon (b : Nat) : Nat := if Fl.isNaN b then cnan else b
def isZ (b : Nat) : Bool := decide (Fl.rg b = 0)
def keyB (b : Nat) : Int := if Fl.isNaN b then 9223372036854775807 else if Fl.ng b then -1 - (Fl.rg b : Int) else Fl.rg b
def ordB (a b : Nat) : Int := if keyB a < keyB b then -1 else if keyB b < keyB a then 1 else 0
def rank1 (b : Nat) : Int := if Fl.isNaN b then 1 else 0
def rank2 (b : Nat) : Int := if Fl.isNaN b then 0 else if isZ b && Fl.ng b then -1 else 0
theorem nan_cnan : Fl.isNaN cnan = true := by decide
theorem nan_lt {b : Nat} (h : Fl.isNaN b = false) : Fl.rg b ≤ 9218868437227405312 := by
  unfold Fl.isNaN at h; simpa using h
theorem ng_cases {b : Nat} (hb : F64 b) : (Fl.ng b = true ∧ b = 9223372036854775808 + Fl.rg b) ∨ (Fl.ng b = false ∧ b = Fl.rg b) := by
  unfold F64 at hb
  unfold Fl.ng Fl.rg
  by_cases g : b / 9223372036854775808 % 2 = 1
  · left; simp [g]; omega
  · right; simp [g]; omega
theorem rg_lt (b : Nat) : Fl.rg b < 9223372036854775808 := Nat.mod_lt _ (by omega)
theorem keyB_le {b : Nat} (h : Fl.isNaN b = false) : keyB b ≤ 9218868437227405312 ∧ -9218868437227405313 ≤ keyB b := by
  have := nan_lt h
  unfold keyB; rw [h]; simp only [Bool.false_eq_true, if_false]; split <;> omega
theorem keyB_nan {b : Nat} (h : Fl.isNaN b = true) : keyB b = 9223372036854775807 := by unfold keyB; simp [h]
theorem bits_shl (b : Nat) : IntKind.u64.wrap ((b : Int) * 2) = 2 * (Fl.rg b : Int) := by
  unfold Fl.rg IntKind.wrap
  simp [IntKind.bits, IntKind.signed]
  omega
theorem nan_bits (b : Nat) : decide (18437736874454810624 < IntKind.u64.wrap ((b : Int) * 2)) = Fl.isNaN b := by
  rw [bits_shl]; unfold Fl.isNaN
  apply decide_eq_decide.2; omega
theorem ng_bits {b : Nat} (hb : F64 b) : decide (9223372036854775808 ≤ (b : Int)) = Fl.ng b := by
  have h1 := rg_lt b
  rcases ng_cases hb with ⟨h, e⟩ | ⟨h, e⟩ <;> rw [h] <;> simp <;> omega
/-- the program's order, by ranks and Go's comparisons, is the row's -/
def ordF (a b : Nat) : Int :=
  if rank1 a ≠ rank1 b then rank1 a - rank1 b else if rank1 a = 1 then 0
  else if Fl.flt a b || (Fl.feq a b && decide (rank2 a < rank2 b)) then -1
  else if Fl.flt b a || (Fl.feq a b && decide (rank2 b < rank2 a)) then 1 else 0
theorem ordF_eq (a b : Nat) : ordF a b = ordB a b := by
  unfold ordF rank1 rank2
  cases ha : Fl.isNaN a
  · cases hb : Fl.isNaN b
    · have ka := keyB_le ha; have kb := keyB_le hb
      unfold Fl.flt Fl.feq Fl.K ordB keyB isZ
      simp only [ha, hb, Bool.not_false, Bool.true_and, Bool.false_eq_true, if_false, ne_eq, not_true, if_false]
      rw [if_neg (by omega)]
      cases Fl.ng a <;> cases Fl.ng b <;> simp only [Bool.false_eq_true, if_false, if_true, Bool.and_true, Bool.and_false, decide_eq_true_eq, Bool.or_eq_true, Bool.and_eq_true] <;> repeat' split
      all_goals omega
    · have ka := keyB_le ha; have kb := keyB_nan hb
      have e : ordB a b = -1 := by unfold ordB; rw [kb, if_pos (by omega)]
      rw [e]; rfl
  · cases hb : Fl.isNaN b
    · have ka := keyB_nan ha; have kb := keyB_le hb
      have e : ordB a b = 1 := by unfold ordB; rw [ka, if_neg (by omega), if_pos (by omega)]
      rw [e]; rfl
    · have ka := keyB_nan ha; have kb := keyB_nan hb
      unfold ordB; rw [ka, kb]; simp
end
section
open Go
/-- how far a text goes on so from a place -/
def far (p : UInt8 → Bool) (l : List UInt8) (a : Nat) : Nat := ((l.drop a).takeWhile p).length
def part (l : List UInt8) (a e : Nat) : List UInt8 := (l.drop a).take (e - a)
end
section
open Go
/-- a value: its kind, number, float (as bits), text, names, items -/
inductive VT where
  | mk (kind num : Int) (flt : Nat) (str : List UInt8) (names : List (List UInt8)) (items : List VT)
def VT.kind : VT → Int | .mk k _ _ _ _ _ => k
def VT.num : VT → Int | .mk _ n _ _ _ _ => n
def VT.flt : VT → Nat | .mk _ _ f _ _ _ => f
def VT.str : VT → List UInt8 | .mk _ _ _ s _ _ => s
def VT.names : VT → List (List UInt8) | .mk _ _ _ _ ns _ => ns
def VT.items : VT → List VT | .mk _ _ _ _ _ its => its
mutual
/-- parts, counted on from n, while there are fewer than 500 -/
def countV : VT → Nat → Nat
  | .mk _ _ _ _ _ its, n => countL its (n + 1)
def countL : List VT → Nat → Nat
  | [], n => n
  | x :: xs, n => if 500 ≤ n then n else countL xs (countV x n)
end
mutual
theorem countV_le : ∀ (v : VT) (n : Nat), n < 500 → countV v n ≤ 500 ∧ n < countV v n
  | .mk _ _ _ _ _ its, n, h => by
    have := countL_le its (n + 1) (by omega)
    rw [countV]
    omega
theorem countL_le : ∀ (l : List VT) (n : Nat), n ≤ 500 → countL l n ≤ 500 ∧ n ≤ countL l n
  | [], n, h => by rw [countL]; omega
  | x :: xs, n, h => by
    rw [countL]
    by_cases hn : 500 ≤ n
    · rw [if_pos hn]; omega
    · rw [if_neg hn]
      have h1 := countV_le x n (by omega)
      have h2 := countL_le xs (countV x n) h1.1
      omega
end
end
section
open Go.RowKit
def Strs (w : World) (l : List (List UInt8)) (v : Value) : Prop :=
  l.length ≤ 140737488355328 ∧ (∀ s ∈ l, s.length ≤ 140737488355328) ∧
  ((l = [] ∧ ∃ p c, v = .slice p 0 c) ∨ ∃ g off cap, v = .slice (some ⟨g, off, none⟩) l.length cap ∧ g < w.heap.size ∧ ∀ i, i < l.length → w.cell? ⟨g, off + i, none⟩ = some (.string ⟨(l.getD i []).toArray⟩))
def noVT : VT := .mk 0 0 0 [] [] []
/-- the cells of a value, so many deep -/
def ValAt (w : World) : Nat → VT → Array Value → Prop
  | 0, _, _ => False
  | d + 1, v, cs => ∃ pn pi, cs = #[.int .i64 v.kind, .int .i64 v.num, .float .f64 v.flt, .string ⟨v.str.toArray⟩, pn, pi] ∧
      (-9223372036854775808 ≤ v.kind ∧ v.kind ≤ 9223372036854775807) ∧ (-9223372036854775808 ≤ v.num ∧ v.num ≤ 9223372036854775807) ∧ F64 v.flt ∧ v.str.length ≤ 140737488355328 ∧ Strs w v.names pn ∧ v.items.length ≤ 140737488355328 ∧
      ((v.items = [] ∧ ∃ p c, pi = .slice p 0 c) ∨ ∃ g off cap, pi = .slice (some ⟨g, off, none⟩) v.items.length cap ∧ g < w.heap.size ∧
        ∀ i, i < v.items.length → ∃ ds, ValAt w d (v.items.getD i noVT) ds ∧ ∀ j, j < 6 → w.cell? ⟨g, off + i * 6 + j, none⟩ = ds[j]?)
theorem Strs.kept {w w' : World} {l : List (List UInt8)} {v : Value} (h : Strs w l v) (hb : Below w.heap.size w w') : Strs w' l v := by
  obtain ⟨h1, h2, h | ⟨g, off, cap, h3, h4, h5⟩⟩ := h
  · exact ⟨h1, h2, .inl h⟩
  · exact ⟨h1, h2, .inr ⟨g, off, cap, h3, Nat.lt_of_lt_of_le h4 hb.size, fun i hi => (hb.cell (p := ⟨g, off + i, none⟩) h4).trans (h5 i hi)⟩⟩
theorem ValAt.kept {w w' : World} (hb : Below w.heap.size w w') : ∀ (d : Nat) (v : VT) (cs : Array Value), ValAt w d v cs → ValAt w' d v cs
  | 0, _, _, h => h
  | d + 1, v, cs, h => by
    obtain ⟨pn, pi, h1, h2, h3, h4, h5, h6, h7, h8⟩ := h
    refine ⟨pn, pi, h1, h2, h3, h4, h5, h6.kept hb, h7, ?_⟩
    rcases h8 with h8 | ⟨g, off, cap, a1, a2, a3⟩
    · exact .inl h8
    · refine .inr ⟨g, off, cap, a1, Nat.lt_of_lt_of_le a2 hb.size, fun i hi => ?_⟩
      obtain ⟨ds, b1, b2⟩ := a3 i hi
      exact ⟨ds, ValAt.kept hb d _ ds b1, fun j hj => (hb.cell (p := ⟨g, off + i * 6 + j, none⟩) a2).trans (b2 j hj)⟩
theorem ValAt.more {w : World} : ∀ (d : Nat) (v : VT) (cs : Array Value), ValAt w d v cs → ValAt w (d + 1) v cs
  | 0, _, _, h => h.elim
  | d + 1, v, cs, h => by
    obtain ⟨pn, pi, h1, h2, h3, h4, h5, h6, h7, h8⟩ := h
    refine ⟨pn, pi, h1, h2, h3, h4, h5, h6, h7, ?_⟩
    rcases h8 with h8 | ⟨g, off, cap, a1, a2, a3⟩
    · exact .inl h8
    · refine .inr ⟨g, off, cap, a1, a2, fun i hi => ?_⟩
      obtain ⟨ds, b1, b2⟩ := a3 i hi
      exact ⟨ds, ValAt.more d _ ds b1, b2⟩
end
section
open Go
mutual
def canV : VT → VT
  | .mk k n f s ns its => .mk k n (canon f) s ns (canL its)
def canL : List VT → List VT
  | [] => []
  | x :: xs => canV x :: canL xs
end
end
section
open Go
def sgnI (a b : Int) : Int := if a < b then -1 else if b < a then 1 else 0
def txtO (a b : List UInt8) : Int := if Op.bytesLess a b = true then -1 else if a = b then 0 else 1
def rowsO : List (List UInt8) → List (List UInt8) → Int
  | a :: us, b :: vs => if txtO a b = 0 then rowsO us vs else txtO a b
  | [], vs => sgnI 0 vs.length
  | a :: us, [] => sgnI (a :: us).length 0
mutual
/-- the order of two values -/
def ordV : VT → VT → Int
  | .mk k n f s ns its, .mk k' n' f' s' ns' its' =>
    if k = k' then
      if k = 1 ∨ k = 2 then sgnI n n' else if k = 3 then ordB f f' else if k = 4 then txtO s s'
      else if k = 5 then ordL its its'
      else if k = 6 then (if rowsO ns ns' = 0 then ordL its its' else rowsO ns ns')
      else if sgnI n n' = 0 then (if txtO s s' = 0 then (if rowsO ns ns' = 0 then ordL its its' else rowsO ns ns') else txtO s s') else sgnI n n'
    else sgnI k k'
def ordL : List VT → List VT → Int
  | [], vs => sgnI 0 vs.length
  | a :: us, [] => sgnI (a :: us).length 0
  | a :: us, b :: vs => if ordV a b = 0 then ordL us vs else ordV a b
end
theorem ordV_ne {a b : VT} (h : a.kind ≠ b.kind) : ordV a b = sgnI a.kind b.kind := by
  obtain ⟨k, n, f, s, ns, its⟩ := a
  obtain ⟨k', n', f', s', ns', its'⟩ := b
  have h : k ≠ k' := h
  rw [ordV, if_neg h]; rfl
theorem ordV_n {a b : VT} (h : a.kind = b.kind) (hk : a.kind = 1 ∨ a.kind = 2) : ordV a b = sgnI a.num b.num := by
  obtain ⟨k, n, f, s, ns, its⟩ := a
  obtain ⟨k', n', f', s', ns', its'⟩ := b
  have h : k = k' := h
  have hk : k = 1 ∨ k = 2 := hk
  rw [ordV, if_pos h, if_pos hk]; rfl
theorem ordV_f {a b : VT} (h : a.kind = b.kind) (hk : a.kind = 3) : ordV a b = ordB a.flt b.flt := by
  obtain ⟨k, n, f, s, ns, its⟩ := a
  obtain ⟨k', n', f', s', ns', its'⟩ := b
  have h : k = k' := h
  have hk : k = 3 := hk
  rw [ordV, if_pos h, if_neg (by omega), if_pos hk]; rfl
theorem ordV_s {a b : VT} (h : a.kind = b.kind) (hk : a.kind = 4) : ordV a b = txtO a.str b.str := by
  obtain ⟨k, n, f, s, ns, its⟩ := a
  obtain ⟨k', n', f', s', ns', its'⟩ := b
  have h : k = k' := h
  have hk : k = 4 := hk
  rw [ordV, if_pos h, if_neg (by omega), if_neg (by omega), if_pos hk]; rfl
theorem ordV_5 {a b : VT} (h : a.kind = b.kind) (hk : a.kind = 5) : ordV a b = ordL a.items b.items := by
  obtain ⟨k, n, f, s, ns, its⟩ := a
  obtain ⟨k', n', f', s', ns', its'⟩ := b
  have h : k = k' := h
  have hk : k = 5 := hk
  rw [ordV, if_pos h, if_neg (by omega), if_neg (by omega), if_neg (by omega), if_pos hk]; rfl
theorem ordV_6 {a b : VT} (h : a.kind = b.kind) (hk : a.kind = 6) : ordV a b = if rowsO a.names b.names = 0 then ordL a.items b.items else rowsO a.names b.names := by
  obtain ⟨k, n, f, s, ns, its⟩ := a
  obtain ⟨k', n', f', s', ns', its'⟩ := b
  have h : k = k' := h
  have hk : k = 6 := hk
  rw [ordV, if_pos h, if_neg (by omega), if_neg (by omega), if_neg (by omega), if_neg (by omega), if_pos hk]; rfl
theorem ordV_x {a b : VT} (h : a.kind = b.kind) (h1 : a.kind ≠ 1) (h2 : a.kind ≠ 2) (h3 : a.kind ≠ 3) (h4 : a.kind ≠ 4) (h5 : a.kind ≠ 5) (h6 : a.kind ≠ 6) :
    ordV a b = if sgnI a.num b.num = 0 then (if txtO a.str b.str = 0 then (if rowsO a.names b.names = 0 then ordL a.items b.items else rowsO a.names b.names) else txtO a.str b.str) else sgnI a.num b.num := by
  obtain ⟨k, n, f, s, ns, its⟩ := a
  obtain ⟨k', n', f', s', ns', its'⟩ := b
  have h : k = k' := h
  have h1 : k ≠ 1 := h1
  have h2 : k ≠ 2 := h2
  have h3 : k ≠ 3 := h3
  have h4 : k ≠ 4 := h4
  have h5 : k ≠ 5 := h5
  have h6 : k ≠ 6 := h6
  rw [ordV, if_pos h, if_neg (by omega), if_neg h3, if_neg h4, if_neg h5, if_neg h6]; rfl
/-- what is found ahead of the names, and ahead of the items -/
def preO (a b : VT) : Int := if a.kind = 5 ∨ a.kind = 6 then 0 else if sgnI a.num b.num = 0 then txtO a.str b.str else sgnI a.num b.num
def headO (a b : VT) : Int := if preO a b = 0 ∧ a.kind ≠ 5 then rowsO a.names b.names else preO a b
theorem preO_l {a b : VT} (h : a.kind = 5 ∨ a.kind = 6) : preO a b = 0 := by unfold preO; rw [if_pos h]
theorem preO_n {a b : VT} (h5 : a.kind ≠ 5) (h6 : a.kind ≠ 6) (h : sgnI a.num b.num ≠ 0) : preO a b = sgnI a.num b.num := by unfold preO; rw [if_neg (by omega), if_neg h]
theorem preO_s {a b : VT} (h5 : a.kind ≠ 5) (h6 : a.kind ≠ 6) (h : sgnI a.num b.num = 0) : preO a b = txtO a.str b.str := by unfold preO; rw [if_neg (by omega), if_pos h]
theorem headO_r {a b : VT} (h : preO a b = 0) (h5 : a.kind ≠ 5) : headO a b = rowsO a.names b.names := by unfold headO; rw [if_pos ⟨h, h5⟩]
theorem headO_5 {a b : VT} (h5 : a.kind = 5) : headO a b = preO a b := by unfold headO; rw [if_neg (fun h => h.2 h5)]
theorem headO_p {a b : VT} (h : preO a b ≠ 0) : headO a b = preO a b := by unfold headO; rw [if_neg (fun k => h k.1)]
theorem ordV_gen {a b : VT} (h : a.kind = b.kind) (h1 : a.kind ≠ 1) (h2 : a.kind ≠ 2) (h3 : a.kind ≠ 3) (h4 : a.kind ≠ 4) : ordV a b = if headO a b = 0 then ordL a.items b.items else headO a b := by
  by_cases h5 : a.kind = 5
  · rw [ordV_5 h h5, headO_5 h5, preO_l (.inl h5), if_pos rfl]
  · by_cases h6 : a.kind = 6
    · rw [ordV_6 h h6, headO_r (preO_l (.inr h6)) h5]
    · rw [ordV_x h h1 h2 h3 h4 h5 h6]
      by_cases hn : sgnI a.num b.num = 0
      · rw [if_pos hn]
        by_cases hs : txtO a.str b.str = 0
        · rw [if_pos hs, headO_r (by rw [preO_s h5 h6 hn, hs]) h5]
        · rw [if_neg hs, headO_p (by rw [preO_s h5 h6 hn]; exact hs), preO_s h5 h6 hn, if_neg hs]
      · rw [if_neg hn, headO_p (by rw [preO_n h5 h6 hn]; exact hn), preO_n h5 h6 hn, if_neg hn]
theorem ordL_step {a b : List VT} {i : Nat} (hi : i < a.length) (hj : i < b.length) : ordL (a.drop i) (b.drop i) = if ordV (a.getD i noVT) (b.getD i noVT) = 0 then ordL (a.drop (i + 1)) (b.drop (i + 1)) else ordV (a.getD i noVT) (b.getD i noVT) := by
  rw [List.drop_eq_getElem_cons hi, List.drop_eq_getElem_cons hj, ordL]
  simp [List.getD, hi, hj]
theorem sgnI_sub (n m i : Nat) (h1 : i ≤ n) (h2 : i ≤ m) : sgnI ((n - i : Nat) : Int) ((m - i : Nat) : Int) = sgnI (n : Int) (m : Int) := by
  unfold sgnI
  repeat' split
  all_goals omega
theorem ordL_end {a b : List VT} {i : Nat} (h1 : i ≤ a.length) (h2 : i ≤ b.length) (h : a.length ≤ i ∨ b.length ≤ i) : ordL (a.drop i) (b.drop i) = sgnI (a.length : Int) (b.length : Int) := by
  rw [← sgnI_sub _ _ i h1 h2, ← List.length_drop, ← List.length_drop]
  generalize ha : a.drop i = x
  generalize hb : b.drop i = y
  cases x with
  | nil => rw [ordL]; rfl
  | cons u us =>
    cases y with
    | nil => rw [ordL]; rfl
    | cons v vs =>
      have l1 := congrArg List.length ha
      have l2 := congrArg List.length hb
      simp at l1 l2
      omega
theorem rowsO_step {a b : List (List UInt8)} {i : Nat} (hi : i < a.length) (hj : i < b.length) : rowsO (a.drop i) (b.drop i) = if txtO (a.getD i []) (b.getD i []) = 0 then rowsO (a.drop (i + 1)) (b.drop (i + 1)) else txtO (a.getD i []) (b.getD i []) := by
  rw [List.drop_eq_getElem_cons hi, List.drop_eq_getElem_cons hj, rowsO]
  simp [List.getD, hi, hj]
theorem rowsO_end {a b : List (List UInt8)} {i : Nat} (h1 : i ≤ a.length) (h2 : i ≤ b.length) (h : a.length ≤ i ∨ b.length ≤ i) : rowsO (a.drop i) (b.drop i) = sgnI (a.length : Int) (b.length : Int) := by
  rw [← sgnI_sub _ _ i h1 h2, ← List.length_drop, ← List.length_drop]
  generalize ha : a.drop i = x
  generalize hb : b.drop i = y
  cases x with
  | nil => rw [rowsO]; rfl
  | cons u us =>
    cases y with
    | nil => rw [rowsO]; rfl
    | cons v vs =>
      have l1 := congrArg List.length ha
      have l2 := congrArg List.length hb
      simp at l1 l2
      omega
theorem less_self' : ∀ l : List UInt8, Op.bytesLess l l = false
  | [] => rfl
  | x :: l => by
    rw [Op.bytesLess]
    simp [less_self' l]
theorem txtO_self (l : List UInt8) : txtO l l = 0 := by
  unfold txtO; rw [less_self', if_neg (by decide), if_pos rfl]
theorem sgnI_self (n : Int) : sgnI n n = 0 := by
  unfold sgnI; simp
theorem rowsO_self : ∀ l : List (List UInt8), rowsO l l = 0
  | [] => rfl
  | x :: l => by rw [rowsO, txtO_self, if_pos rfl, rowsO_self l]
end
section
open Go.RowKit
theorem ord_eq (a b : Nat) : (FloatKind.f64.format.order a b == some .eq) = Fl.feq a b := Fl.order_eq a b
theorem ord_ne (a b : Nat) : (FloatKind.f64.format.order a b != some .eq) = !Fl.feq a b := by rw [← Fl.order_eq a b]; rfl
theorem ord_lt (a b : Nat) : (FloatKind.f64.format.order a b == some .lt) = Fl.flt a b := Fl.order_lt a b
theorem ord_gt (a b : Nat) : (FloatKind.f64.format.order a b == some .gt) = Fl.flt b a := Fl.order_gt a b
theorem feq_self (a : Nat) : Fl.feq a a = !Fl.isNaN a := by unfold Fl.feq; simp
theorem ret_val {a b : Value} (h : a = b) : Ending.returned a = .returned b := by rw [h]
theorem bits_run (b : Nat) (w : World) : (callFunc 271 #[.float .f64 b]).run Tryz.prog w = .ok (.value (.int .u64 b)) w :=
  run_callFunc_extern Tryz.func271 (by kernel_rfl) (by kernel_rfl) (by kernel_rfl) (e := Extern.MathFloatBits.float64bits) (by kernel_rfl) _ w
set_option maxHeartbeats 400000 in
theorem rnan_any (b : Nat) (w : World) : Calls Tryz.prog 210 #[.float .f64 b] w fun e w' => e = .returned (.bool (Fl.isNaN b)) ∧ w = w' := by
  have hf := bits_run
  go_enter Tryz.func210, Tryz.ntmps210
  go_wp2
  go_ret
  exact ⟨ret_val (by rw [← nan_bits b]; rfl), rfl⟩
set_option maxHeartbeats 400000 in
theorem rkey_any (b : Nat) (hb : F64 b) (w : World) : Calls Tryz.prog 219 #[.float .f64 b] w fun e w' => e = .returned (.int .i64 (keyB b)) ∧ w = w' := by
  have hf := bits_run
  cases hn : Fl.isNaN b
  · rcases ng_cases hb with ⟨h, he⟩ | ⟨h, he⟩
    · have hc : keyB b = -1 - (Fl.rg b : Int) := by simp [keyB, hn, h]
      have HC := Lib.hid hc; clear hc
      have hd := ng_bits hb
      rw [h] at hd
      have hl := rg_lt b
      have e1 : IntKind.u64.wrap ((b : Int) - 9223372036854775808) = (Fl.rg b : Int) := by rw [IntWalk.u64_in _ (by omega)]; omega
      have E1 := Lib.hid e1; clear e1
      have e2 : wrap64 (-1 - wrap64 (Fl.rg b : Int)) = -1 - (Fl.rg b : Int) := by rw [IntWalk.wrap64_in (Fl.rg b : Int) (by omega), IntWalk.wrap64_in _ (by omega)]
      have E2 := Lib.hid e2; clear e2
      clear he hl
      go_enter Tryz.func219, Tryz.ntmps219
      go_wp2_with (go_at_call 210; refine (rnan_any _ _).mono ?_; rintro e w' ⟨rfl, rfl⟩)
      go_ret
      exact ⟨ret_val (by rw [HC.out, ← E2.out, ← E1.out]; rfl), rfl⟩
    · have hc : keyB b = (Fl.rg b : Int) := by simp [keyB, hn, h]
      have HC := Lib.hid hc; clear hc
      have hd := ng_bits hb
      rw [h] at hd
      have hl := rg_lt b
      have e2 : wrap64 (b : Int) = (Fl.rg b : Int) := by rw [IntWalk.wrap64_in _ (by omega)]; omega
      have E2 := Lib.hid e2; clear e2
      clear he hl
      go_enter Tryz.func219, Tryz.ntmps219
      go_wp2_with (go_at_call 210; refine (rnan_any _ _).mono ?_; rintro e w' ⟨rfl, rfl⟩)
      go_ret
      exact ⟨ret_val (by rw [HC.out, ← E2.out]; rfl), rfl⟩
  · have hc : keyB b = 9223372036854775807 := keyB_nan hn
    have HC := Lib.hid hc; clear hc
    go_enter Tryz.func219, Tryz.ntmps219
    go_wp2_with (go_at_call 210; refine (rnan_any _ _).mono ?_; rintro e w' ⟨rfl, rfl⟩)
    go_ret
    exact ⟨ret_val (by rw [HC.out]; rfl), rfl⟩
set_option maxHeartbeats 400000 in
theorem rorder_any (a b : Nat) (ha : F64 a) (hb : F64 b) (w : World) : Calls Tryz.prog 169 #[.float .f64 a, .float .f64 b] w fun e w' => e = .returned (.int .i64 (ordB a b)) ∧ w = w' := by
  by_cases h1 : keyB a < keyB b
  · have hc : ordB a b = -1 := by unfold ordB; rw [if_pos h1]
    have HC := Lib.hid hc; clear hc
    go_enter Tryz.func169, Tryz.ntmps169
    go_wp2_with fail
    refine (rkey_any _ ha _).mono ?_; rintro e w' ⟨rfl, rfl⟩
    go_wp2_with fail
    refine (rkey_any _ hb _).mono ?_; rintro e w' ⟨rfl, rfl⟩
    go_wp2_with fail
    go_ret
    exact ⟨ret_val (by rw [HC.out]; rfl), rfl⟩
  · by_cases h2 : keyB b < keyB a
    · have hc : ordB a b = 1 := by unfold ordB; rw [if_neg h1, if_pos h2]
      have HC := Lib.hid hc; clear hc
      go_enter Tryz.func169, Tryz.ntmps169
      go_wp2_with fail
      refine (rkey_any _ ha _).mono ?_; rintro e w' ⟨rfl, rfl⟩
      go_wp2_with fail
      refine (rkey_any _ hb _).mono ?_; rintro e w' ⟨rfl, rfl⟩
      go_wp2_with fail
      go_ret
      exact ⟨ret_val (by rw [HC.out]; rfl), rfl⟩
    · have hc : ordB a b = 0 := by unfold ordB; rw [if_neg h1, if_neg h2]
      have HC := Lib.hid hc; clear hc
      go_enter Tryz.func169, Tryz.ntmps169
      go_wp2_with fail
      refine (rkey_any _ ha _).mono ?_; rintro e w' ⟨rfl, rfl⟩
      go_wp2_with fail
      refine (rkey_any _ hb _).mono ?_; rintro e w' ⟨rfl, rfl⟩
      go_wp2_with fail
      go_ret
      exact ⟨ret_val (by rw [HC.out]; rfl), rfl⟩
end
section
open Go.RowKit
theorem countL_stop {l : List VT} {m : Nat} (h : 500 ≤ m) : countL l m = m := by
  cases l with
  | nil => rw [countL]
  | cons x xs => rw [countL, if_pos h]
theorem countL_drop {l : List VT} {i m : Nat} (hi : i < l.length) (h : m < 500) : countL (l.drop i) m = countL (l.drop (i + 1)) (countV (l.getD i noVT) m) := by
  have e : l.getD i noVT = l[i] := by simp [List.getD, hi]
  rw [List.drop_eq_getElem_cons hi, countL, if_neg (by omega), e]
theorem countL_end {l : List VT} {i m : Nat} (hi : l.length ≤ i) : countL (l.drop i) m = m := by
  rw [List.drop_eq_nil_of_le hi, countL]
theorem ValAt.form {w : World} {d : Nat} {v : VT} {cs : Array Value} (h : ValAt w d v cs) : ∃ pn pi, cs = #[.int .i64 v.kind, .int .i64 v.num, .float .f64 v.flt, .string ⟨v.str.toArray⟩, pn, pi] := by
  cases d with
  | zero => exact h.elim
  | succ d => obtain ⟨pn, pi, h1, _⟩ := h; exact ⟨pn, pi, h1⟩
set_option maxRecDepth 100000 in
set_option maxHeartbeats 1000000 in
theorem rcount_any : ∀ (d : Nat) (v : VT) (cs : Array Value) (n : Nat) (w : World), ValAt w d v cs → n < 500 →
    Calls Tryz.prog 62 #[.agg cs, .int .i64 (n : Int)] w fun e w' => e = .returned (.int .i64 (countV v n : Nat)) ∧ Below w.heap.size w w'
  | 0, _, _, _, _, h, _ => h.elim
  | d + 1, v, cs, n, w, h, hn => by
    obtain ⟨pn, pi, rfl, h2, h3, h4, h5, h6, h7, h8⟩ := h
    have ih := Lib.hid (rcount_any d)
    have hcv : countV v n = countL v.items (n + 1) := by cases v; rw [countV]; rfl
    have HCV := Lib.hid hcv
    clear hcv h2 h3 h4 h5 h6
    have hB : Below w.heap.size w (w.alloc (.cells #[.int .i64 v.kind, .int .i64 v.num, .float .f64 v.flt, .string ⟨v.str.toArray⟩, pn, pi] 34)) := (Below.refl _ _).alloc (Nat.le_refl _) _
    have hnew : (w.alloc (.cells #[.int .i64 v.kind, .int .i64 v.num, .float .f64 v.flt, .string ⟨v.str.toArray⟩, pn, pi] 34)).heap[w.heap.size]? = some (.cells #[.int .i64 v.kind, .int .i64 v.num, .float .f64 v.flt, .string ⟨v.str.toArray⟩, pn, pi] 34 (0, 0)) := heap_alloc_new w _
    have hK : w.heap.size + 1 = (w.alloc (.cells #[.int .i64 v.kind, .int .i64 v.num, .float .f64 v.flt, .string ⟨v.str.toArray⟩, pn, pi] 34)).heap.size := by simp
    obtain ⟨its, hits⟩ : ∃ its, its = v.items := ⟨_, rfl⟩
    rw [← hits] at h7 h8 HCV
    have h8' : ∃ p cap, pi = .slice p its.length cap ∧ ∀ i, i < its.length → ∃ g off, p = some ⟨g, off, none⟩ ∧ g < w.heap.size ∧ ∃ ds, ValAt w d (its.getD i noVT) ds ∧ ∀ j, j < 6 → w.cell? ⟨g, off + i * 6 + j, none⟩ = ds[j]? := by
      rcases h8 with ⟨h8, p, c, hp⟩ | ⟨g, off, cap, hp, hg, hc⟩
      · subst h8
        exact ⟨p, c, hp, fun i hi => absurd hi (by simp)⟩
      · exact ⟨_, cap, hp, fun i hi => ⟨g, off, rfl, hg, hc i hi⟩⟩
    obtain ⟨p, cap, rfl, h9⟩ := h8'
    have H9 := Lib.hid h9
    clear h8 h9 hits
    generalize hN : its.length = N at *
    have HN := Lib.hid hN
    clear hN
    go_enter Tryz.func62, Tryz.ntmps62
    go_wp2_with fail
    generalize w.alloc (.cells #[.int .i64 v.kind, .int .i64 v.num, .float .f64 v.flt, .string ⟨v.str.toArray⟩, pn, .slice p N cap] 34) = W0 at *
    generalize hgh : w.heap.size = H at *
    have HH := Lib.hid hgh; clear hgh
    have hW0 : H < W0.heap.size := by omega
    clear hK
    have hB8 := Below.refl W0.heap.size W0
    generalize hG : W0.heap.size = G at *
    have HG := Lib.hid hG; clear hG
    go_loopw [1, 5] (fun mv iv wr => ∃ i m : Nat, i ≤ N ∧ m ≤ 500 ∧ mv = .int .i64 m ∧ iv = .int .i64 i ∧ Below G W0 wr ∧ Hid (countV v n = countL (its.drop i) m)) (fun _ iv _ => N - (intOf iv).toNat)
    case atStart => exact ⟨0, n + 1, by omega, by omega, by go_num, rfl, hB8, by show _ = _; rw [List.drop_zero, HCV.out]⟩
    case round =>
      clear hB8
      obtain ⟨i, m, hi, hm, rfl, rfl, hBr, hcn⟩ := hrel
      have hGr : G ≤ wr.heap.size := by have := hBr.size; rw [HG.out] at this; exact this
      have hBw : Below H w wr := hB.trans (hBr.mono (by omega))
      have r5 : wr.cell? ⟨H, 5, none⟩ = some (.slice p N cap) := (hBr.cell (p := ⟨H, 5, none⟩) (by show H < G; omega)).trans (by simp [World.cell?, hnew])
      have hmin : min (m : Int) 500 = (m : Int) := by omega
      by_cases hlt : i < N
      · have t0 : decide ((i : Int) < (N : Int)) = true := by simp; omega
        by_cases h5 : m < 500
        · have t1 : decide ((m : Int) < 500) = true := by simp; omega
          obtain ⟨g, off, rfl, hg, ds, hv, hcl⟩ := H9.out i hlt
          obtain ⟨qn, qi, rfl⟩ := ValAt.form hv
          have x0 : wr.cell? ⟨g, off + i * 6, none⟩ = some (.int .i64 (its.getD i noVT).kind) := (hBw.cell (p := ⟨g, off + i * 6 + 0, none⟩) hg).trans (hcl 0 (by decide))
          have x1 : wr.cell? ⟨g, off + i * 6 + 1, none⟩ = some (.int .i64 (its.getD i noVT).num) := (hBw.cell (p := ⟨g, off + i * 6 + 1, none⟩) hg).trans (hcl 1 (by decide))
          have x2 : wr.cell? ⟨g, off + i * 6 + 2, none⟩ = some (.float .f64 (its.getD i noVT).flt) := (hBw.cell (p := ⟨g, off + i * 6 + 2, none⟩) hg).trans (hcl 2 (by decide))
          have x3 : wr.cell? ⟨g, off + i * 6 + 3, none⟩ = some (.string ⟨(its.getD i noVT).str.toArray⟩) := (hBw.cell (p := ⟨g, off + i * 6 + 3, none⟩) hg).trans (hcl 3 (by decide))
          have x4 : wr.cell? ⟨g, off + i * 6 + 4, none⟩ = some (qn) := (hBw.cell (p := ⟨g, off + i * 6 + 4, none⟩) hg).trans (hcl 4 (by decide))
          have x5 : wr.cell? ⟨g, off + i * 6 + 5, none⟩ = some (qi) := (hBw.cell (p := ⟨g, off + i * 6 + 5, none⟩) hg).trans (hcl 5 (by decide))
          have hv2 := ValAt.kept (w' := wr) (by rw [HH.out]; exact hBw) d _ _ hv
          have HC := Lib.hid (ih.out _ _ m wr hv2 h5)
          have hdn := countL_drop (l := its) (i := i) (m := m) (by rw [HN.out]; exact hlt) h5
          have HD := Lib.hid hdn
          have hle := countV_le (its.getD i noVT) m h5
          generalize its.getD i noVT = k at *
          generalize countV k m = m2 at *
          have b1 : (0 : Int) ≤ (i : Int) := by omega
          have b2 : (i : Int) < (N : Int) := by omega
          clear hdn hcl hv hv2 hmin
          go_wp2_with fail
          refine (HC.out).mono ?_; rintro e w5 ⟨rfl, hb5⟩
          have hB6 := hBr.trans (hb5.mono hGr)
          go_wp2_with fail
          go_roundw
          case rel => exact ⟨i + 1, m2, by omega, hle.1, rfl, by go_num, hB6, by show _ = _; rw [hcn.out, HD.out]⟩
          case measure => simp [intOf]; omega
        · have t1 : decide ((m : Int) < 500) = false := by simp; omega
          have HF := Lib.hid (countL_stop (l := its.drop i) (m := m) (by omega))
          go_wp2_with fail
          go_ret
          exact ⟨ret_val (by rw [hcn.out, HF.out]; rfl), by rw [HH.out]; exact hBw⟩
      · have t0 : decide ((i : Int) < (N : Int)) = false := by simp; omega
        have HF := Lib.hid (countL_end (l := its) (i := i) (m := m) (by rw [HN.out]; omega))
        go_wp2_with fail
        go_ret
        exact ⟨ret_val (by rw [hcn.out, HF.out]; rfl), by rw [HH.out]; exact hBw⟩
end
section
open Go.RowKit
mutual
/-- how deep, looked at so far -/
def depthV : VT → Nat → Nat
  | .mk _ _ _ _ _ its, far => if far = 0 then 1 else depthL its (far - 1) + 1
def depthL : List VT → Nat → Nat
  | [], _ => 0
  | x :: xs, far => max (depthV x far) (depthL xs far)
end
set_option maxRecDepth 100000 in
set_option maxHeartbeats 1000000 in
theorem rparts_any (d : Nat) (v : VT) (cs : Array Value) (w : World) (h : ValAt w d v cs) :
    Calls Tryz.prog 34 #[.agg cs] w fun e w' => e = .returned (.int .i64 (countV v 0 : Nat)) ∧ Below w.heap.size w w' := by
  obtain ⟨pn, pi, rfl⟩ := ValAt.form h
  have hB : Below w.heap.size w (w.alloc (.cells #[.int .i64 v.kind, .int .i64 v.num, .float .f64 v.flt, .string ⟨v.str.toArray⟩, pn, pi] 34)) := (Below.refl _ _).alloc (Nat.le_refl _) _
  have h2 := ValAt.kept hB d _ _ h
  have HC := Lib.hid (rcount_any d v _ 0 _ h2 (by omega))
  go_enter Tryz.func34, Tryz.ntmps34
  go_wp2_with fail
  refine (HC.out).mono ?_; rintro e w2 ⟨rfl, k2⟩
  go_wp2_with fail
  go_ret
  exact ⟨rfl, hB.trans (k2.mono (by simp))⟩
theorem depthL_drop {l : List VT} {i m : Nat} (hi : i < l.length) : depthL (l.drop i) m = max (depthV (l.getD i noVT) m) (depthL (l.drop (i + 1)) m) := by
  have e : l.getD i noVT = l[i] := by simp [List.getD, hi]
  rw [List.drop_eq_getElem_cons hi, depthL, e]
mutual
theorem depthV_le : ∀ (v : VT) (n : Nat), depthV v n ≤ n + 1
  | .mk _ _ _ _ _ its, n => by
    rw [depthV]
    split
    · omega
    · have := depthL_le its (n - 1)
      omega
theorem depthL_le : ∀ (l : List VT) (n : Nat), depthL l n ≤ n + 1
  | [], n => by rw [depthL]; omega
  | x :: xs, n => by
    rw [depthL]
    have h1 := depthV_le x n
    have h2 := depthL_le xs n
    omega
end
set_option maxRecDepth 100000 in
set_option maxHeartbeats 1000000 in
theorem rdepth_any : ∀ (d : Nat) (v : VT) (cs : Array Value) (n : Nat) (w : World), ValAt w d v cs → n ≤ 1000 →
    Calls Tryz.prog 33 #[.agg cs, .int .i64 (n : Int)] w fun e w' => e = .returned (.int .i64 (depthV v n : Nat)) ∧ Below w.heap.size w w'
  | 0, _, _, _, _, h, _ => h.elim
  | d + 1, v, cs, n, w, h, hn => by
    obtain ⟨pn, pi, rfl, h2, h3, h4, h5, h6, h7, h8⟩ := h
    have ih := Lib.hid (rdepth_any d)
    have hcv : depthV v n = if n = 0 then 1 else depthL v.items (n - 1) + 1 := by cases v; rw [depthV]; rfl
    have HCV := Lib.hid hcv
    clear hcv h2 h3 h4 h5 h6
    have hB : Below w.heap.size w (w.alloc (.cells #[.int .i64 v.kind, .int .i64 v.num, .float .f64 v.flt, .string ⟨v.str.toArray⟩, pn, pi] 34)) := (Below.refl _ _).alloc (Nat.le_refl _) _
    have hnew : (w.alloc (.cells #[.int .i64 v.kind, .int .i64 v.num, .float .f64 v.flt, .string ⟨v.str.toArray⟩, pn, pi] 34)).heap[w.heap.size]? = some (.cells #[.int .i64 v.kind, .int .i64 v.num, .float .f64 v.flt, .string ⟨v.str.toArray⟩, pn, pi] 34 (0, 0)) := heap_alloc_new w _
    have hK : w.heap.size + 1 = (w.alloc (.cells #[.int .i64 v.kind, .int .i64 v.num, .float .f64 v.flt, .string ⟨v.str.toArray⟩, pn, pi] 34)).heap.size := by simp
    obtain ⟨its, hits⟩ : ∃ its, its = v.items := ⟨_, rfl⟩
    rw [← hits] at h7 h8 HCV
    have h8' : ∃ p cap, pi = .slice p its.length cap ∧ ∀ i, i < its.length → ∃ g off, p = some ⟨g, off, none⟩ ∧ g < w.heap.size ∧ ∃ ds, ValAt w d (its.getD i noVT) ds ∧ ∀ j, j < 6 → w.cell? ⟨g, off + i * 6 + j, none⟩ = ds[j]? := by
      rcases h8 with ⟨h8, p, c, hp⟩ | ⟨g, off, cap, hp, hg, hc⟩
      · subst h8
        exact ⟨p, c, hp, fun i hi => absurd hi (by simp)⟩
      · exact ⟨_, cap, hp, fun i hi => ⟨g, off, rfl, hg, hc i hi⟩⟩
    obtain ⟨p, cap, rfl, h9⟩ := h8'
    have H9 := Lib.hid h9
    clear h8 h9 hits
    generalize hN : its.length = N at *
    have HN := Lib.hid hN
    clear hN
    go_enter Tryz.func33, Tryz.ntmps33
    go_wp2_with fail
    generalize w.alloc (.cells #[.int .i64 v.kind, .int .i64 v.num, .float .f64 v.flt, .string ⟨v.str.toArray⟩, pn, .slice p N cap] 34) = W0 at *
    generalize hgh : w.heap.size = H at *
    have HH := Lib.hid hgh; clear hgh
    have hW0 : H < W0.heap.size := by omega
    clear hK
    have hB8 := Below.refl W0.heap.size W0
    generalize hG : W0.heap.size = G at *
    have HG := Lib.hid hG; clear hG
    go_loopw [5, 6] (fun mv iv wr => ∃ i m : Nat, i ≤ N ∧ m ≤ 2000 ∧ mv = .int .i64 m ∧ iv = .int .i64 i ∧ Below G W0 wr ∧ (n = 0 → m = 0) ∧ Hid (n ≠ 0 → depthL its (n - 1) = max m (depthL (its.drop i) (n - 1)))) (fun _ iv _ => N - (intOf iv).toNat)
    case atStart => exact ⟨0, 0, by omega, by omega, rfl, rfl, hB8, fun _ => rfl, fun _ => by rw [List.drop_zero, Nat.zero_max]⟩
    case round =>
      clear hB8
      obtain ⟨i, m, hi, hm, rfl, rfl, hBr, hm0, hcn⟩ := hrel
      have hGr : G ≤ wr.heap.size := by have := hBr.size; rw [HG.out] at this; exact this
      have hBw : Below H w wr := hB.trans (hBr.mono (by omega))
      have r5 : wr.cell? ⟨H, 5, none⟩ = some (.slice p N cap) := (hBr.cell (p := ⟨H, 5, none⟩) (by show H < G; omega)).trans (by simp [World.cell?, hnew])
      by_cases hlt : i < N
      · have t0 : decide ((i : Int) < (N : Int)) = true := by simp; omega
        by_cases h5 : 0 < n
        · have t1 : decide ((0 : Int) < (n : Int)) = true := by simp; omega
          obtain ⟨g, off, rfl, hg, ds, hv, hcl⟩ := H9.out i hlt
          obtain ⟨qn, qi, rfl⟩ := ValAt.form hv
          have x0 : wr.cell? ⟨g, off + i * 6, none⟩ = some (.int .i64 (its.getD i noVT).kind) := (hBw.cell (p := ⟨g, off + i * 6 + 0, none⟩) hg).trans (hcl 0 (by decide))
          have x1 : wr.cell? ⟨g, off + i * 6 + 1, none⟩ = some (.int .i64 (its.getD i noVT).num) := (hBw.cell (p := ⟨g, off + i * 6 + 1, none⟩) hg).trans (hcl 1 (by decide))
          have x2 : wr.cell? ⟨g, off + i * 6 + 2, none⟩ = some (.float .f64 (its.getD i noVT).flt) := (hBw.cell (p := ⟨g, off + i * 6 + 2, none⟩) hg).trans (hcl 2 (by decide))
          have x3 : wr.cell? ⟨g, off + i * 6 + 3, none⟩ = some (.string ⟨(its.getD i noVT).str.toArray⟩) := (hBw.cell (p := ⟨g, off + i * 6 + 3, none⟩) hg).trans (hcl 3 (by decide))
          have x4 : wr.cell? ⟨g, off + i * 6 + 4, none⟩ = some (qn) := (hBw.cell (p := ⟨g, off + i * 6 + 4, none⟩) hg).trans (hcl 4 (by decide))
          have x5 : wr.cell? ⟨g, off + i * 6 + 5, none⟩ = some (qi) := (hBw.cell (p := ⟨g, off + i * 6 + 5, none⟩) hg).trans (hcl 5 (by decide))
          have hv2 := ValAt.kept (w' := wr) (by rw [HH.out]; exact hBw) d _ _ hv
          have HC := Lib.hid (ih.out _ _ (n - 1) wr hv2 (by omega))
          have hdn := depthL_drop (l := its) (i := i) (m := n - 1) (by rw [HN.out]; exact hlt)
          have HD := Lib.hid hdn
          have hle := depthV_le (its.getD i noVT) (n - 1)
          generalize its.getD i noVT = k at *
          generalize depthV k (n - 1) = m2 at *
          have b1 : (0 : Int) ≤ (i : Int) := by omega
          have b2 : (i : Int) < (N : Int) := by omega
          have hn1 : ((n - 1 : Nat) : Int) = (n : Int) - 1 := by omega
          rw [hn1] at HC
          have hmx : max (m : Int) (m2 : Int) = ((max m m2 : Nat) : Int) := by omega
          clear hdn hcl hv hv2 hn1
          go_wp2_with fail
          refine (HC.out).mono ?_; rintro e w5 ⟨rfl, hb5⟩
          have hB6 := hBr.trans (hb5.mono hGr)
          go_wp2_with fail
          go_roundw
          case rel => exact ⟨i + 1, max m m2, by omega, by omega, rfl, by go_num, hB6, fun h => absurd h (by omega), fun h => by rw [hcn.out h, HD.out, Nat.max_assoc]⟩
          case measure => simp [intOf]; omega
        · have t1 : decide ((0 : Int) < (n : Int)) = false := by simp; omega
          have hn0 : n = 0 := by omega
          have HF := Lib.hid (show depthV v n = m + 1 from by rw [HCV.out, if_pos hn0, hm0 hn0])
          clear hn0
          go_wp2_with fail
          go_ret
          exact ⟨ret_val (by rw [HF.out]; rfl), by rw [HH.out]; exact hBw⟩
      · have t0 : decide ((i : Int) < (N : Int)) = false := by simp; omega
        have HF := Lib.hid (show depthV v n = m + 1 from by
          rw [HCV.out]
          by_cases h0 : n = 0
          · rw [if_pos h0, hm0 h0]
          · rw [if_neg h0, hcn.out h0, List.drop_eq_nil_of_le (by rw [HN.out]; omega), depthL, Nat.max_zero])
        go_wp2_with fail
        go_ret
        exact ⟨ret_val (by rw [HF.out]; rfl), by rw [HH.out]; exact hBw⟩
end
section
open Go.RowKit
def smallB (v : VT) : Bool := decide (depthV v 40 ≤ 30) && decide (countV v 0 < 500)
set_option maxRecDepth 100000 in
set_option maxHeartbeats 1000000 in
theorem rsmall_any (d : Nat) (v : VT) (cs : Array Value) (w : World) (h : ValAt w d v cs) :
    Calls Tryz.prog 13 #[.agg cs] w fun e w' => e = .returned (.bool (smallB v)) ∧ Below w.heap.size w w' := by
  obtain ⟨pn, pi, rfl⟩ := ValAt.form h
  have hB : Below w.heap.size w (w.alloc (.cells #[.int .i64 v.kind, .int .i64 v.num, .float .f64 v.flt, .string ⟨v.str.toArray⟩, pn, pi] 34)) := (Below.refl _ _).alloc (Nat.le_refl _) _
  have h2 := ValAt.kept hB d _ _ h
  have HD := Lib.hid (rdepth_any d v _ 40 _ h2 (by omega))
  have HP := Lib.hid (fun w2 k => rparts_any d v _ w2 (ValAt.kept k d _ _ h2))
  have hs := smallB.eq_def v
  have hnew : (w.alloc (.cells #[.int .i64 v.kind, .int .i64 v.num, .float .f64 v.flt, .string ⟨v.str.toArray⟩, pn, pi] 34)).heap[w.heap.size]? = some (.cells #[.int .i64 v.kind, .int .i64 v.num, .float .f64 v.flt, .string ⟨v.str.toArray⟩, pn, pi] 34 (0, 0)) := heap_alloc_new w _
  have hW0 : w.heap.size < (w.alloc (.cells #[.int .i64 v.kind, .int .i64 v.num, .float .f64 v.flt, .string ⟨v.str.toArray⟩, pn, pi] 34)).heap.size := by simp
  have HS := Lib.hid hs; clear hs h2
  generalize depthV v 40 = a at *
  generalize countV v 0 = b at *
  by_cases ha : a ≤ 30
  · have t1 : decide ((a : Int) ≤ 30) = true := by simp; omega
    have HA := Lib.hid ha
    go_enter Tryz.func13, Tryz.ntmps13
    go_wp2_with fail
    refine (HD.out).mono ?_; rintro e w2 ⟨rfl, k2⟩
    generalize w.alloc (.cells #[.int .i64 v.kind, .int .i64 v.num, .float .f64 v.flt, .string ⟨v.str.toArray⟩, pn, pi] 34) = W0 at *
    have hc : ∀ j, w2.cell? ⟨w.heap.size, j, none⟩ = (#[.int .i64 v.kind, .int .i64 v.num, .float .f64 v.flt, .string ⟨v.str.toArray⟩, pn, pi] : Array Value)[j]? := fun j => (k2.cell (p := ⟨w.heap.size, j, none⟩) hW0).trans (by simp [World.cell?, hnew])
    have x0 := hc 0; have x1 := hc 1; have x2 := hc 2; have x3 := hc 3; have x4 := hc 4; have x5 := hc 5
    clear hc
    simp at x0 x1 x2 x3 x4 x5
    by_cases hb : b < 500
    · have t2 : decide ((b : Int) < 500) = true := by simp; omega
      have HB := Lib.hid (show decide (b < 500) = true from decide_eq_true hb)
      go_wp2_with fail
      refine (HP.out _ k2).mono ?_; rintro e w3 ⟨rfl, k3⟩
      go_wp2_with fail
      go_ret
      exact ⟨ret_val (by rw [HS.out, decide_eq_true HA.out, HB.out]; rfl), (hB.trans (k2.mono (by omega))).trans (k3.mono (by have := k2.size; omega))⟩
    · have t2 : decide ((b : Int) < 500) = false := by simp; omega
      have HB := Lib.hid (show decide (b < 500) = false from decide_eq_false hb)
      go_wp2_with fail
      refine (HP.out _ k2).mono ?_; rintro e w3 ⟨rfl, k3⟩
      go_wp2_with fail
      go_ret
      exact ⟨ret_val (by rw [HS.out, decide_eq_true HA.out, HB.out]; rfl), (hB.trans (k2.mono (by omega))).trans (k3.mono (by have := k2.size; omega))⟩
  · have t1 : decide ((a : Int) ≤ 30) = false := by simp; omega
    have HA := Lib.hid ha
    go_enter Tryz.func13, Tryz.ntmps13
    go_wp2_with fail
    refine (HD.out).mono ?_; rintro e w2 ⟨rfl, k2⟩
    go_wp2_with fail
    go_ret
    exact ⟨ret_val (by rw [HS.out, decide_eq_false HA.out]; rfl), hB.trans (k2.mono (by omega))⟩
end
section
open Go.RowKit
/-- what a call hands back that makes memory of its own alone -/
def Gives (v : Value) (w : World) (e : Ending) (w' : World) : Prop := e = .returned v ∧ Below w.heap.size w w'
end
section
open Go.RowKit
theorem rsign_any (n m : Int) (w : World) : Calls Tryz.prog 168 #[.int .i64 n, .int .i64 m] w fun e w' => e = .returned (.int .i64 (sgnI n m)) ∧ w = w' := by
  have hs := sgnI.eq_def n m
  by_cases h : n < m
  · have t1 : decide (n < m) = true := decide_eq_true h
    rw [if_pos h] at hs
    have HS := Lib.hid hs; clear hs
    go_enter Tryz.func168, Tryz.ntmps168
    go_wp2_with fail
    go_ret
    exact ⟨ret_val (by rw [HS.out]; rfl), rfl⟩
  · have t1 : decide (n < m) = false := decide_eq_false h
    rw [if_neg h] at hs
    by_cases h2 : m < n
    · have t2 : decide (m < n) = true := decide_eq_true h2
      rw [if_pos h2] at hs
      have HS := Lib.hid hs; clear hs
      go_enter Tryz.func168, Tryz.ntmps168
      go_wp2_with fail
      go_ret
      exact ⟨ret_val (by rw [HS.out]; rfl), rfl⟩
    · have t2 : decide (m < n) = false := decide_eq_false h2
      rw [if_neg h2] at hs
      have HS := Lib.hid hs; clear hs
      go_enter Tryz.func168, Tryz.ntmps168
      go_wp2_with fail
      go_ret
      exact ⟨ret_val (by rw [HS.out]; rfl), rfl⟩
theorem rtext_ord (s t : ByteArray) (w : World) : Calls Tryz.prog 170 #[.string s, .string t] w fun e w' => e = .returned (.int .i64 (txtO s.toList t.toList)) ∧ w = w' := by
  have hs := txtO.eq_def s.toList t.toList
  cases t1 : Op.bytesLess s.toList t.toList
  · rw [t1, if_neg (by decide)] at hs
    by_cases h2 : s.toList = t.toList
    · rw [if_pos h2] at hs
      have t2 : (s.toList == t.toList) = true := beq_iff_eq.2 h2
      have HS := Lib.hid hs; clear hs h2
      go_enter Tryz.func170, Tryz.ntmps170
      go_wp2_with fail
      go_ret
      exact ⟨ret_val (by rw [HS.out]; rfl), rfl⟩
    · rw [if_neg h2] at hs
      have t2 : (s.toList == t.toList) = false := beq_eq_false_iff_ne.2 h2
      have HS := Lib.hid hs; clear hs h2
      go_enter Tryz.func170, Tryz.ntmps170
      go_wp2_with fail
      go_ret
      exact ⟨ret_val (by rw [HS.out]; rfl), rfl⟩
  · rw [t1, if_pos rfl] at hs
    have HS := Lib.hid hs; clear hs
    go_enter Tryz.func170, Tryz.ntmps170
    go_wp2_with fail
    go_ret
    exact ⟨ret_val (by rw [HS.out]; rfl), rfl⟩
theorem rtext_ords (s t : List UInt8) (w : World) : Calls Tryz.prog 170 #[.string ⟨s.toArray⟩, .string ⟨t.toArray⟩] w fun e w' => e = .returned (.int .i64 (txtO s t)) ∧ w = w' := by
  have := rtext_ord ⟨s.toArray⟩ ⟨t.toArray⟩ w
  rwa [ByteArray.toList_eq, ByteArray.toList_eq] at this
theorem Strs.row {w : World} {l : List (List UInt8)} {v : Value} (h : Strs w l v) : ∃ p c, v = .slice p l.length c ∧ l.length ≤ 140737488355328 ∧ ∀ i, i < l.length → ∃ g off, p = some ⟨g, off, none⟩ ∧ w.cell? ⟨g, off + i, none⟩ = some (.string ⟨(l.getD i []).toArray⟩) := by
  obtain ⟨hl, _, h | ⟨g, off, cap, h3, h4, h5⟩⟩ := h
  · obtain ⟨rfl, p, c, rfl⟩ := h
    exact ⟨p, c, rfl, hl, fun i hi => by simp at hi⟩
  · exact ⟨_, _, h3, hl, fun i hi => ⟨g, off, rfl, h5 i hi⟩⟩
set_option maxRecDepth 100000 in
set_option maxHeartbeats 2000000 in
theorem rrows_any (l m : List (List UInt8)) (u v : Value) (w : World) (hu : Strs w l u) (hv : Strs w m v) : Calls Tryz.prog 171 #[u, v] w (Gives (.int .i64 (rowsO l m)) w) := by
  obtain ⟨p, c, rfl, hln, hcu⟩ := hu.row
  obtain ⟨q, d, rfl, hlm, hcv⟩ := hv.row
  have HT := Lib.hid (fun s t w => rtext_ords s t w)
  have HS := Lib.hid (fun n m w => rsign_any n m w)
  have HCu := Lib.hid hcu; have HCv := Lib.hid hcv
  have HStep := Lib.hid (fun i (h1 : i < l.length) h2 => rowsO_step (a := l) (b := m) (i := i) h1 h2)
  have HEnd := Lib.hid (fun i (h1 : i ≤ l.length) h2 h3 => rowsO_end (a := l) (b := m) (i := i) h1 h2 h3)
  clear hu hv hcu hcv
  generalize l.length = N at *
  generalize m.length = M at *
  have h0 : Hid (rowsO l m = rowsO (l.drop 0) (m.drop 0)) := by show _ = _; rw [List.drop_zero, List.drop_zero]
  generalize rowsO l m = R at *
  go_enter Tryz.func171, Tryz.ntmps171
  go_wp2_with fail
  go_loopw [5] (fun iv wr => ∃ i : Nat, iv = .int .i64 (i : Int) ∧ i ≤ N ∧ i ≤ M ∧ Hid (R = rowsO (l.drop i) (m.drop i)) ∧ ∃ k, wr = w.drewN k) (fun iv _ => N - (intOf iv).toNat)
  case atStart => exact ⟨0, rfl, Nat.zero_le _, Nat.zero_le _, h0, 0, rfl⟩
  case round =>
    clear h0
    obtain ⟨i, rfl, hi, hj, hR, k, rfl⟩ := hrel
    by_cases hlt : i < N
    · have t0 : decide ((i : Int) < (N : Int)) = true := by simp; omega
      by_cases hlm : i < M
      · have t1 : decide ((i : Int) < (M : Int)) = true := by simp; omega
        obtain ⟨g, off, rfl, c1⟩ := HCu.out i hlt
        obtain ⟨g', off', rfl, c2⟩ := HCv.out i hlm
        replace c1 : (w.drewN k).cell? ⟨g, off + i, none⟩ = _ := c1
        replace c2 : (w.drewN k).cell? ⟨g', off' + i, none⟩ = _ := c2
        have hst := HStep.out i hlt hlm
        have b1 : (0 : Int) ≤ (i : Int) := by omega
        have b2 : (i : Int) < (N : Int) := by omega
        have b3 : (i : Int) < (M : Int) := by omega
        have HT2 := Lib.hid (fun w => HT.out (l.getD i []) (m.getD i []) w)
        generalize txtO (l.getD i []) (m.getD i []) = T at *
        generalize (⟨(l.getD i []).toArray⟩ : ByteArray) = s at *
        generalize (⟨(m.getD i []).toArray⟩ : ByteArray) = s' at *
        by_cases hT : T = 0
        · rw [if_pos hT] at hst
          subst hT
          have HST := Lib.hid hst; clear hst
          generalize hW : w.drewN k = W at *
          have HW := Lib.hid hW; clear hW
          go_wp2_with fail
          go_quiet (refine Calls.quiet_of_same ((HT2.out _).mono fun _ _ h => ⟨h.1, h.2.symm⟩))
          go_wp2_with fail
          go_roundw
          case rel => exact ⟨i + 1, by go_num, by omega, by omega, by show _ = _; rw [hR.out, HST.out], _, by rw [← HW.out, World.drewN_drewN]⟩
          case measure => simp [intOf]; omega
        · rw [if_neg hT] at hst
          have t2 : (T != 0) = true := by rw [bne_iff_ne]; exact hT
          have HST := Lib.hid hst; clear hst hT
          generalize hW : w.drewN k = W at *
          have HW := Lib.hid hW; clear hW
          go_wp2_with fail
          go_quiet (refine Calls.quiet_of_same ((HT2.out _).mono fun _ _ h => ⟨h.1, h.2.symm⟩))
          go_wp2_with fail
          go_ret
          exact ⟨ret_val (by rw [hR.out, HST.out]; rfl), by rw [← HW.out]; exact ⟨rfl, rfl, rfl, Nat.le_refl _, fun _ _ => rfl⟩⟩
      · have t1 : decide ((i : Int) < (M : Int)) = false := by simp; omega
        have HE := Lib.hid (HEnd.out i hi hj (.inr (by omega)))
        go_wp2_with fail
        refine (HS.out _ _ _).mono ?_; rintro e w2 ⟨rfl, rfl⟩
        go_wp2_with fail
        go_ret
        exact ⟨ret_val (by rw [hR.out, HE.out]; rfl), ⟨rfl, rfl, rfl, Nat.le_refl _, fun _ _ => rfl⟩⟩
    · have t0 : decide ((i : Int) < (N : Int)) = false := by simp; omega
      have HE := Lib.hid (HEnd.out i hi hj (.inl (by omega)))
      go_wp2_with fail
      refine (HS.out _ _ _).mono ?_; rintro e w2 ⟨rfl, rfl⟩
      go_wp2_with fail
      go_ret
      exact ⟨ret_val (by rw [hR.out, HE.out]; rfl), ⟨rfl, rfl, rfl, Nat.le_refl _, fun _ _ => rfl⟩⟩
end
end Go.Proofs.YthponidjednfbaaGreatDoor
