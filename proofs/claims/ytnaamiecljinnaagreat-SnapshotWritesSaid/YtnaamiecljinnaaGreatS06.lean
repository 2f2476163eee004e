/-
  Y7, Y8, Y9, Ya, Yb, Yc, Yd, Ys, Yt in one text.
-/
import Derived.Below
import Derived.BigQuiet
import Derived.Deep.Cut
import Derived.Deep.QuietTactic
import Derived.Deep.RegionHeld3
import Derived.Handy
import Derived.IntWalk
import Derived.Laws.Bits64b
import Derived.Laws.FloatBits
import Derived.Lib.AtoiAll
import Derived.Lib.Builder
import Derived.Lib.Bytes
import Derived.Lib.ConvBytes
import Derived.Lib.FrozenHead2
import Derived.Lib.Hide
import Derived.Lib.IndexMore
import Derived.Lib.ItoaNum
import Derived.Lib.MinMax
import Derived.Lib.OthersKept
import Derived.Lib.ParseIntB
import Derived.Lib.UnsafeStr
import Derived.LoopTactic
import Derived.OneCell
import Derived.OwnWalk
import Derived.RegionTactic
import Derived.Tactics
import Derived.Tactics2
import Derived.Test.YtnaamiecljinnaaGreatChecked
import Derived.WalkKit
import Derived.WalkLawsBesides
import Derived.WalkSpells
import Ieee.Arith
import Derived.Test.YtnaamiecljinnaaGreatS00
import Derived.Test.YtnaamiecljinnaaGreatS02
import Derived.Test.YtnaamiecljinnaaGreatS03
import Derived.Test.YtnaamiecljinnaaGreatS05
namespace Go.Proofs.YtnaamiecljinnaaGreat
section
open Go.RowKit
set_option maxRecDepth 100000 in
set_option maxHeartbeats 2000000 in
theorem vRight_any (d : Nat) (v : VT) (cs : Array Value) (w : World) (h : ValAt w d v cs) : Calls Tryz.prog 100 #[.agg cs] w (Gives (.bool (rightB v)) w) := by
  obtain ⟨pn, p, cap, rfl⟩ := h.six
  have hb := h.box
  have hB : Below w.heap.size w (w.alloc (.cells #[.int .i64 v.kind, .int .i64 v.num, .float .f64 v.flt, .string ⟨v.str.toArray⟩, pn, .slice p v.items.length cap] 57)) := (Below.refl _ _).alloc (Nat.le_refl _) _
  have HP := Lib.hid (vparts_any d v _ _ (h.kept hB))
  have HC := Lib.hid (fun w' (hb' : Below _ _ w') => vright_any d v w.heap.size 0 1 12 w' (hb.kept hb') rfl)
  have hR := rightB.eq_def v
  clear hb h
  by_cases h2 : countV v 0 ≤ 200
  · have t1 : decide (((countV v 0 : Nat) : Int) ≤ 200) = true := by simp; omega
    rw [decide_eq_true h2, Bool.true_and] at hR
    have HR := Lib.hid hR; clear hR
    generalize countV v 0 = m at *
    go_enter Tryz.func100, Tryz.ntmps100
    go_wp2_with fail
    refine (HP.out).mono ?_; rintro e w2 ⟨rfl, hb2⟩
    go_wp2_with fail
    refine (HC.out _ hb2).mono ?_; rintro e w3 ⟨rfl, hb3⟩
    go_wp2_with fail
    go_ret
    exact ⟨ret_val (by rw [HR.out]; rfl), (hB.trans (hb2.mono hB.size)).trans (hb3.mono (Nat.le_trans hB.size hb2.size))⟩
  · have t1 : decide (((countV v 0 : Nat) : Int) ≤ 200) = false := by simp; omega
    rw [decide_eq_false h2, Bool.false_and] at hR
    have HR := Lib.hid hR; clear hR
    generalize countV v 0 = m at *
    go_enter Tryz.func100, Tryz.ntmps100
    go_wp2_with fail
    refine (HP.out).mono ?_; rintro e w2 ⟨rfl, hb2⟩
    go_wp2_with fail
    go_ret
    exact ⟨ret_val (by rw [HR.out]; rfl), hB.trans (hb2.mono hB.size)⟩
end
section
open Go.RowKit
set_option maxRecDepth 100000 in
set_option maxHeartbeats 2000000 in
theorem cstr_any (s : List UInt8) (hs : s.length ≤ 1000000) (B b : Nat) (o : List UInt8) (ho : o.length ≤ 9000000) (w : World) (hb : Bld 204 B b o w) :
    Calls Tryz.prog 139 #[.pointer (some ⟨b, 0, none⟩), .string ⟨s.toArray⟩] w fun e w' => e = .returned (.tuple #[]) ∧ Bld 204 B b (o ++ strE s) w' ∧ Wrote B b w w' := by
  have hl := uintS_len s.length
  have HU := Lib.hid (cuint_any s.length (by omega) B b o (by omega) w hb)
  have HS := Lib.hid (fun w' (hb' : Bld 204 B b (o ++ uintS s.length) w') => hb'.writeS bt_codec s (by simp; omega))
  have hsz : (⟨s.toArray⟩ : ByteArray).size = s.length := by show s.toArray.size = _; simp
  have hE : strE s = uintS s.length ++ s := rfl
  have HE := Lib.hid hE; clear hE
  have hw : IntKind.u64.wrap (s.length : Int) = (s.length : Int) := by rw [IntKind.wrap_u64]; omega
  go_enter Tryz.func139, Tryz.ntmps139
  go_wp2_with fail
  refine (HU.out).mono ?_; rintro e w1 ⟨rfl, hb1, hw1⟩
  go_wp2_with fail
  refine (HS.out _ hb1).mono ?_; rintro e w2 ⟨rfl, hb2, hw2⟩
  go_wp2_with fail
  go_end0
  exact ⟨rfl, by rw [HE.out, ← List.append_assoc]; exact hb2, hw1.trans hw2⟩
theorem xor_zero64 (x : Nat) (h : x < 18446744073709551616) : bits .xor .u64 (x : Int) 0 = (x : Int) := by
  have h1 : (BitVec.ofInt 64 (x : Int)).toNat = x := by
    rw [BitVec.ofInt_natCast, BitVec.toNat_ofNat]; exact Nat.mod_eq_of_lt (by omega)
  show IntKind.u64.wrap ((BitVec.ofInt 64 (x : Int) ^^^ BitVec.ofInt 64 0).toNat : Int) = _
  rw [show BitVec.ofInt 64 0 = 0#64 from by decide, BitVec.xor_zero, h1, IntKind.wrap_u64]; omega
theorem xor_ones64 (x : Nat) (h : x < 18446744073709551616) : bits .xor .u64 (x : Int) 18446744073709551615 = ((18446744073709551615 - x : Nat) : Int) := by
  have h1 : (BitVec.ofInt 64 (x : Int)).toNat = x := by
    rw [BitVec.ofInt_natCast, BitVec.toNat_ofNat]; exact Nat.mod_eq_of_lt (by omega)
  show IntKind.u64.wrap ((BitVec.ofInt 64 (x : Int) ^^^ BitVec.ofInt 64 18446744073709551615).toNat : Int) = _
  rw [show BitVec.ofInt 64 18446744073709551615 = BitVec.allOnes 64 from by decide, BitVec.xor_allOnes, BitVec.toNat_not, h1, IntKind.wrap_u64]; omega
theorem zig_bits {n : Int} (hn : -9223372036854775808 ≤ n ∧ n ≤ 9223372036854775807) :
    bits .xor .u64 (IntKind.u64.wrap (IntKind.u64.wrap n * 2)) (IntKind.u64.wrap (n / 9223372036854775808)) = (zig n : Int) := by
  unfold zig
  by_cases h : n < 0
  · rw [if_pos h]
    have e1 : IntKind.u64.wrap (IntKind.u64.wrap n * 2) = ((2 * n + 18446744073709551616).toNat : Int) := by rw [IntKind.wrap_u64, IntKind.wrap_u64]; omega
    have e2 : IntKind.u64.wrap (n / 9223372036854775808) = 18446744073709551615 := by rw [IntKind.wrap_u64]; omega
    rw [e1, e2, xor_ones64 _ (by omega)]
    omega
  · rw [if_neg h]
    have e1 : IntKind.u64.wrap (IntKind.u64.wrap n * 2) = ((2 * n).toNat : Int) := by rw [IntKind.wrap_u64, IntKind.wrap_u64]; omega
    have e2 : IntKind.u64.wrap (n / 9223372036854775808) = 0 := by rw [IntKind.wrap_u64]; omega
    rw [e1, e2, xor_zero64 _ (by omega)]
    omega
set_option maxRecDepth 100000 in
set_option maxHeartbeats 2000000 in
theorem cint_any (n : Int) (hn : -9223372036854775808 ≤ n ∧ n ≤ 9223372036854775807) (B b : Nat) (o : List UInt8) (ho : o.length ≤ 9000000) (w : World) (hb : Bld 204 B b o w) :
    Calls Tryz.prog 138 #[.pointer (some ⟨b, 0, none⟩), .int .i64 n] w fun e w' => e = .returned (.tuple #[]) ∧ Bld 204 B b (o ++ uintS (zig n)) w' ∧ Wrote B b w w' := by
  have HU := Lib.hid (cuint_any (zig n) (zig_lt hn) B b o (by omega) w hb)
  have HZ := Lib.hid (zig_bits hn)
  go_enter Tryz.func138, Tryz.ntmps138
  go_wp2_with fail
  rw [HZ.out]
  refine (HU.out).mono ?_; rintro e w1 ⟨rfl, hb1, hw1⟩
  go_wp2_with fail
  go_end0
  exact ⟨rfl, hb1, hw1⟩
end
section
open Go
theorem enc1 {v : VT} (h : v.kind = 1) : encV v = [1, UInt8.ofNat v.num.toNat] := by
  cases v with
  | mk k n f s ns its =>
    have h : k = 1 := h
    subst h; rw [encV]; rfl
theorem enc2 {v : VT} (h : v.kind = 2) : encV v = 2 :: uintS (zig v.num) := by
  cases v with
  | mk k n f s ns its =>
    have h : k = 2 := h
    subst h; rw [encV]; rfl
theorem enc3 {v : VT} (h : v.kind = 3) : encV v = 3 :: fltE (canon v.flt) := by
  cases v with
  | mk k n f s ns its =>
    have h : k = 3 := h
    subst h; rw [encV]; rfl
theorem enc4 {v : VT} (h : v.kind = 4) : encV v = 4 :: strE v.str := by
  cases v with
  | mk k n f s ns its =>
    have h : k = 4 := h
    subst h; rw [encV]; rfl
theorem enc5 {v : VT} (h : v.kind = 5) : encV v = 5 :: (uintS v.items.length ++ encL false v.names v.items) := by
  cases v with
  | mk k n f s ns its =>
    have h : k = 5 := h
    subst h; rw [encV]; rfl
theorem enc6 {v : VT} (h : v.kind = 6) : encV v = 6 :: (uintS v.items.length ++ encL true v.names v.items) := by
  cases v with
  | mk k n f s ns its =>
    have h : k = 6 := h
    subst h; rw [encV]; rfl
theorem encL_drop5 {its : List VT} {ns : List (List UInt8)} {i : Nat} (hi : i < its.length) : encL false (ns.drop i) (its.drop i) = encV (its.getD i noVT) ++ encL false (ns.drop (i + 1)) (its.drop (i + 1)) := by
  have e : its.getD i noVT = its[i] := by simp [List.getD, hi]
  rw [List.drop_eq_getElem_cons hi, encL, e]
  simp
theorem encL_drop6 {its : List VT} {ns : List (List UInt8)} {i : Nat} (hi : i < its.length) (hn : i < ns.length) : encL true (ns.drop i) (its.drop i) = strE (ns.getD i []) ++ (encV (its.getD i noVT) ++ encL true (ns.drop (i + 1)) (its.drop (i + 1))) := by
  have e : its.getD i noVT = its[i] := by simp [List.getD, hi]
  have e2 : ns.getD i [] = ns[i] := by simp [List.getD, hn]
  rw [List.drop_eq_getElem_cons hi, encL, e, e2, List.drop_eq_getElem_cons hn]
  rfl
theorem encL_end {named : Bool} {its : List VT} {ns : List (List UInt8)} {i : Nat} (hi : its.length ≤ i) : encL named ns (its.drop i) = [] := by
  rw [List.drop_eq_nil_of_le hi, encL]
theorem strE_len (s : List UInt8) : (strE s).length ≤ 10 + s.length := by
  unfold strE
  have := uintS_len s.length
  rw [List.length_append]; omega
theorem encL_len (named : Bool) : ∀ (its : List VT) (ns : List (List UInt8)), (∀ s ∈ ns, s.length ≤ 30) → (∀ v ∈ its, (encV v).length + 40 ≤ 300 * psz v) → (encL named ns its).length ≤ 300 * pszL its
  | [], _, _, _ => by rw [encL]; simp
  | x :: xs, ns, hn, h => by
    have hx := h x (List.mem_cons_self ..)
    have ih := encL_len named xs ns.tail (fun s hs => hn s (List.mem_of_mem_tail hs)) (fun v hv => h v (List.mem_cons_of_mem _ hv))
    have hp : 1 ≤ psz x := by cases x; rw [psz]; omega
    have hh : (if named then strE (ns.headD []) else []).length ≤ 40 := by
      split
      · have := strE_len (ns.headD [])
        cases ns with
        | nil => simp [strE] at this ⊢; omega
        | cons a l => have h2 := hn a (List.mem_cons_self ..); simp only [List.headD_cons] at this ⊢; omega
      · simp
    rw [encL, pszL, List.length_append, List.length_append]
    omega
theorem fltE_length (b : Nat) : (fltE b).length = 8 := rfl
theorem encV_len : ∀ (far : Nat) (v : VT), rightV v far = true → (encV v).length + 40 ≤ 300 * psz v
  | 0, v, h => by rw [right0] at h; cases h
  | far + 1, v, h => by
    have hp : 1 ≤ psz v ∧ psz v = pszL v.items + 1 := by cases v; rw [psz]; exact ⟨by omega, rfl⟩
    have hk := right_kind h
    rcases hk with hk | hk | hk | hk | hk | hk
    · rw [enc1 hk]; simp; omega
    · rw [enc2 hk]
      have := uintS_len (zig v.num)
      simp; omega
    · rw [enc3 hk]
      have := fltE_length (canon v.flt)
      simp; omega
    · rw [enc4 hk]
      rw [right4 hk, Bool.and_eq_true, decide_eq_true_eq] at h
      have := strE_len v.str
      simp; omega
    · rw [enc5 hk]
      rw [right5 hk, Bool.and_eq_true, Bool.and_eq_true, decide_eq_true_eq] at h
      have h1 := encL_len false v.items v.names (fun s hs => by rw [List.length_eq_zero_iff.1 h.2.1] at hs; cases hs) (fun x hx => encV_len far x (rightL_mem h.2.2 x hx))
      have := uintS_len v.items.length
      simp; omega
    · rw [enc6 hk]
      rw [right6 hk, Bool.and_eq_true, Bool.and_eq_true, Bool.and_eq_true, decide_eq_true_eq] at h
      have h1 := encL_len true v.items v.names (rises_len h.2.1) (fun x hx => encV_len far x (rightL_mem h.2.2.2 x hx))
      have := uintS_len v.items.length
      simp; omega
theorem rightB_len {v : VT} (h : rightB v = true) : (encV v).length ≤ 60000 := by
  obtain ⟨h1, h2⟩ := (rightB_iff v).1 h
  have := encV_len 12 v h2
  omega
end
section
open Go.RowKit
set_option maxRecDepth 100000 in
set_option maxHeartbeats 8000000 in
theorem cvalue_leaf (d : Nat) (v : VT) (g o far B b : Nat) (q : List UInt8) (W0 w : World) (h : PtrTo W0 d v g o) (hW0 : W0.heap.size = B) (hB0 : Below B W0 w) (hbd : Bld 204 B b q w) (hr : rightV v far = true) (hk : v.kind ≠ 3 ∧ v.kind ≠ 5 ∧ v.kind ≠ 6) (hlen : q.length + (encV v).length ≤ 8000000) :
    Calls Tryz.prog 101 #[.pointer (some ⟨b, 0, none⟩), .pointer (some ⟨g, o, none⟩)] w fun e w' => e = .returned (.tuple #[]) ∧ Bld 204 B b (q ++ encV v) w' ∧ Wrote B b w w' := by
  obtain ⟨d, rfl⟩ : ∃ e, d = e + 1 := by
    cases d with
    | zero => obtain ⟨_, _, h, _⟩ := h; exact h.elim
    | succ e => exact ⟨e, rfl⟩
  obtain ⟨far, rfl⟩ : ∃ e, far = e + 1 := by
    cases far with
    | zero => rw [right0] at hr; cases hr
    | succ e => exact ⟨e, rfl⟩
  have hnum : -9223372036854775808 ≤ v.num ∧ v.num ≤ 9223372036854775807 := by
    obtain ⟨_, cs, ⟨_, _, _, _, h3, _⟩, _⟩ := h; exact h3
  have hkk := right_kind hr
  have hq : q.length ≤ 8000000 := by omega
  rcases hkk with k1 | k1 | k1 | k1 | k1 | k1
  · -- bool
    obtain ⟨pn, p, cap, hg, x0, x1, x2, x3, x4, x5, h4, h5, h6, h7, h9⟩ := h.open
    rw [k1] at x0
    rw [hW0] at hg
    have HKc := Lib.hid (fun w' (hb : Below B W0 w') => (show w'.cell? ⟨g, o, none⟩ = some (.int .i64 1) ∧ w'.cell? ⟨g, o + 1, none⟩ = some (.int .i64 v.num) from ⟨(hb.cell (p := ⟨g, o, none⟩) hg).trans x0, (hb.cell (p := ⟨g, o + 1, none⟩) hg).trans x1⟩))
    rw [right1 k1, Bool.and_eq_true, decide_eq_true_eq] at hr
    have HE := Lib.hid (enc1 k1)
    have hn01 := hr.2
    have hwr : IntKind.u8.wrap v.num = ((UInt8.ofNat v.num.toNat).toNat : Int) := by rcases hn01 with h | h <;> rw [h] <;> rfl
    have hwz : v.num % 256 = ((UInt8.ofNat v.num.toNat).toNat : Int) := by rcases hn01 with h | h <;> rw [h] <;> rfl
    have HWR := Lib.hid hwr
    have HWZ := Lib.hid hwz
    clear hr hn01 h9 h6 h5 h4 h7 h x0 x1 x2 x3 x4 x5 k1 hk hwr hwz
    generalize v.num = n at *
    have HW1 := Lib.hid (fun w' (h' : Bld 204 B b q w') => (show Calls Tryz.prog 69 #[.pointer (some ⟨b, 0, none⟩), .int .u8 1] w' fun e w'' => e = .returned .nilIface ∧ Bld 204 B b (q ++ [1]) w'' ∧ Wrote B b w' w'' from h'.write bt_codec (by omega) 1))
    have HW2 := Lib.hid (fun w' (h' : Bld 204 B b (q ++ [1]) w') => h'.write bt_codec (by simp; omega) (UInt8.ofNat n.toNat))
    have wk : IntKind.u8.wrap 1 = 1 := by decide
    go_enter Tryz.func101, Tryz.ntmps101
    go_wp2_with fail
    go_region_held3 (fun w' => w'.cell? ⟨g, o, none⟩ = some (.int .i64 1) ∧ w'.cell? ⟨g, o + 1, none⟩ = some (.int .i64 n)) (first | exact HKc.out _ hB0.drew | go_keep | exact HKc.out _ (hB0.drew.trans hw1.1)) ((go_at_call 69; (with_reducible refine (HW1.out _ hbd.drew).mono ?_); rintro e w1 ⟨rfl, hb1, hw1⟩))
    clear wk
    have hB1 := hB0.drew.trans hw1.1
    have hW1 : Wrote B b w w1 := (Wrote.refl B b w).drew.trans hw1
    have y0 := (HKc.out _ hB1).1
    have y1 := (HKc.out _ hB1).2
    go_wp2_with fail
    go_region_held3 (fun w' => w'.cell? ⟨g, o, none⟩ = some (.int .i64 1) ∧ w'.cell? ⟨g, o + 1, none⟩ = some (.int .i64 n)) (first | exact HKc.out _ hB1.drew | go_keep | exact HKc.out _ (hB1.drew.trans hw2.1)) ((go_at_call 69; rw [HWR.out]; (with_reducible refine (HW2.out _ hb1.drew).mono ?_); rintro e w2 ⟨rfl, hb2, hw2⟩))
    go_wp2_with fail
    go_end0
    exact ⟨rfl, by rw [HE.out]; simpa using hb2, hW1.drew.trans hw2⟩
  · -- int
    obtain ⟨pn, p, cap, hg, x0, x1, x2, x3, x4, x5, h4, h5, h6, h7, h9⟩ := h.open
    rw [k1] at x0
    rw [hW0] at hg
    have HKc := Lib.hid (fun w' (hb : Below B W0 w') => (show w'.cell? ⟨g, o, none⟩ = some (.int .i64 2) ∧ w'.cell? ⟨g, o + 1, none⟩ = some (.int .i64 v.num) from ⟨(hb.cell (p := ⟨g, o, none⟩) hg).trans x0, (hb.cell (p := ⟨g, o + 1, none⟩) hg).trans x1⟩))
    have HE := Lib.hid (enc2 k1)
    clear hr h9 h6 h5 h4 h7 h x0 x1 x2 x3 x4 x5 k1 hk
    generalize v.num = n at *
    have HW1 := Lib.hid (fun w' (h' : Bld 204 B b q w') => (show Calls Tryz.prog 69 #[.pointer (some ⟨b, 0, none⟩), .int .u8 2] w' fun e w'' => e = .returned .nilIface ∧ Bld 204 B b (q ++ [2]) w'' ∧ Wrote B b w' w'' from h'.write bt_codec (by omega) 2))
    have HW2 := Lib.hid (fun w' (h' : Bld 204 B b (q ++ [2]) w') => cint_any n hnum B b (q ++ [2]) (by simp; omega) w' h')
    have wk : IntKind.u8.wrap 2 = 2 := by decide
    go_enter Tryz.func101, Tryz.ntmps101
    go_wp2_with fail
    go_region_held3 (fun w' => w'.cell? ⟨g, o, none⟩ = some (.int .i64 2) ∧ w'.cell? ⟨g, o + 1, none⟩ = some (.int .i64 n)) (first | exact HKc.out _ hB0.drew | go_keep | exact HKc.out _ (hB0.drew.trans hw1.1)) ((go_at_call 69; (with_reducible refine (HW1.out _ hbd.drew).mono ?_); rintro e w1 ⟨rfl, hb1, hw1⟩))
    clear wk
    have hB1 := hB0.drew.trans hw1.1
    have hW1 : Wrote B b w w1 := (Wrote.refl B b w).drew.trans hw1
    have y0 := (HKc.out _ hB1).1
    have y1 := (HKc.out _ hB1).2
    go_wp2_with fail
    refine (HW2.out _ hb1).mono ?_; rintro e w2 ⟨rfl, hb2, hw2⟩
    go_wp2_with fail
    go_end0
    exact ⟨rfl, by rw [HE.out]; simpa using hb2, hW1.trans hw2⟩
  · exact absurd k1 hk.1
  · -- string
    obtain ⟨pn, p, cap, hg, x0, x1, x2, x3, x4, x5, h4, h5, h6, h7, h9⟩ := h.open
    rw [k1] at x0
    rw [hW0] at hg
    have HKc := Lib.hid (fun w' (hb : Below B W0 w') => (show w'.cell? ⟨g, o, none⟩ = some (.int .i64 4) ∧ w'.cell? ⟨g, o + 1, none⟩ = some (.int .i64 v.num) from ⟨(hb.cell (p := ⟨g, o, none⟩) hg).trans x0, (hb.cell (p := ⟨g, o + 1, none⟩) hg).trans x1⟩))
    have HK3 := Lib.hid (fun w' (hb : Below B W0 w') => (hb.cell (p := ⟨g, o + 3, none⟩) hg).trans x3)
    rw [right4 k1, Bool.and_eq_true, decide_eq_true_eq] at hr
    have HE := Lib.hid (enc4 k1)
    have hs := hr.2
    clear hr h9 h6 h5 h4 h7 h x0 x1 x2 x3 x4 x5 k1 hk
    generalize v.str = s at *
    have HW1 := Lib.hid (fun w' (h' : Bld 204 B b q w') => (show Calls Tryz.prog 69 #[.pointer (some ⟨b, 0, none⟩), .int .u8 4] w' fun e w'' => e = .returned .nilIface ∧ Bld 204 B b (q ++ [4]) w'' ∧ Wrote B b w' w'' from h'.write bt_codec (by omega) 4))
    have HW2 := Lib.hid (fun w' (h' : Bld 204 B b (q ++ [4]) w') => cstr_any s (by omega) B b (q ++ [4]) (by simp; omega) w' h')
    have wk : IntKind.u8.wrap 4 = 4 := by decide
    go_enter Tryz.func101, Tryz.ntmps101
    go_wp2_with fail
    go_region_held3 (fun w' => w'.cell? ⟨g, o, none⟩ = some (.int .i64 4) ∧ w'.cell? ⟨g, o + 1, none⟩ = some (.int .i64 v.num)) (first | exact HKc.out _ hB0.drew | go_keep | exact HKc.out _ (hB0.drew.trans hw1.1)) ((go_at_call 69; (with_reducible refine (HW1.out _ hbd.drew).mono ?_); rintro e w1 ⟨rfl, hb1, hw1⟩))
    clear wk
    have hB1 := hB0.drew.trans hw1.1
    have hW1 : Wrote B b w w1 := (Wrote.refl B b w).drew.trans hw1
    have y0 := (HKc.out _ hB1).1
    have y3 := HK3.out _ hB1
    go_wp2_with fail
    refine (HW2.out _ hb1).mono ?_; rintro e w2 ⟨rfl, hb2, hw2⟩
    go_wp2_with fail
    go_end0
    exact ⟨rfl, by rw [HE.out]; simpa using hb2, hW1.trans hw2⟩
  · exact absurd k1 hk.2.1
  · exact absurd k1 hk.2.2
end
section
open Go.RowKit
theorem shr8 (c i : Nat) : IntKind.u8.wrap ((c : Int) / ((2 ^ i : Nat) : Int)) = ((UInt8.ofNat (c / 2 ^ i % 256)).toNat : Int) := by
  have e : (c : Int) / ((2 ^ i : Nat) : Int) = ((c / 2 ^ i : Nat) : Int) := by omega
  rw [e, IntKind.wrap_u8]
  simp [UInt8.toNat_ofNat']
set_option maxRecDepth 100000 in
set_option maxHeartbeats 8000000 in
theorem cvalue_float (d : Nat) (v : VT) (g o B b : Nat) (q : List UInt8) (W0 w : World) (h : PtrTo W0 d v g o) (hW0 : W0.heap.size = B) (hB0 : Below B W0 w) (hbd : Bld 204 B b q w) (k1 : v.kind = 3) (hq : q.length ≤ 8000000) :
    Calls Tryz.prog 101 #[.pointer (some ⟨b, 0, none⟩), .pointer (some ⟨g, o, none⟩)] w fun e w' => e = .returned (.tuple #[]) ∧ Bld 204 B b (q ++ encV v) w' ∧ Wrote B b w w' := by
  obtain ⟨d, rfl⟩ : ∃ e, d = e + 1 := by
    cases d with
    | zero => obtain ⟨_, _, h, _⟩ := h; exact h.elim
    | succ e => exact ⟨e, rfl⟩
  obtain ⟨pn, p, cap, hg, x0, x1, x2, x3, x4, x5, h4, h5, h6, h7, h9⟩ := h.open
  rw [k1] at x0
  rw [hW0] at hg
  have HKc := Lib.hid (fun w' (hb : Below B W0 w') => (show w'.cell? ⟨g, o, none⟩ = some (.int .i64 3) ∧ w'.cell? ⟨g, o + 2, none⟩ = some (.float .f64 v.flt) from ⟨(hb.cell (p := ⟨g, o, none⟩) hg).trans x0, (hb.cell (p := ⟨g, o + 2, none⟩) hg).trans x2⟩))
  have HE := Lib.hid (enc3 k1)
  have HCa := Lib.hid (fun w => canon_any v.flt w)
  have hcf := (canon_F64 h4).out
  have hbr := fun n w => bits_run n w
  have HW := Lib.hid (fun (r : List UInt8) (hr : r.length ≤ 10) (c : UInt8) w' (h' : Bld 204 B b (q ++ r) w') => h'.write bt_codec (by simp; omega) c)
  have HW1 := Lib.hid (fun w' (h' : Bld 204 B b q w') => (show Calls Tryz.prog 69 #[.pointer (some ⟨b, 0, none⟩), .int .u8 3] w' fun e w'' => e = .returned .nilIface ∧ Bld 204 B b (q ++ [3]) w'' ∧ Wrote B b w' w'' from h'.write bt_codec (by omega) 3))
  clear h9 h6 h5 h4 h7 h x0 x1 x2 x3 x4 x5 k1
  generalize v.flt = F at *
  generalize canon F = n at *
  have wk : IntKind.u8.wrap 3 = 3 := by decide
  go_enter Tryz.func101, Tryz.ntmps101
  go_wp2_with fail
  go_region_held3 (fun w' => w'.cell? ⟨g, o, none⟩ = some (.int .i64 3) ∧ w'.cell? ⟨g, o + 2, none⟩ = some (.float .f64 F)) (first | exact HKc.out _ hB0.drew | go_keep | exact HKc.out _ (hB0.drew.trans hw1.1)) ((go_at_call 69; (with_reducible refine (HW1.out _ hbd.drew).mono ?_); rintro e w1 ⟨rfl, hb1, hw1⟩))
  clear wk
  have hB1 := hB0.drew.trans hw1.1
  have hW1 : Wrote B b w w1 := (Wrote.refl B b w).drew.trans hw1
  have y0 := (HKc.out _ hB1).1
  have y2 := (HKc.out _ hB1).2
  go_wp2_with fail
  refine (HCa.out _).mono ?_; rintro e w' ⟨rfl, rfl⟩
  clear hB1
  go_wp2_with fail
  clear y0 y2
  refine wp_loop_rounds 9 ?_
  rw [rounds_succ]
  have e0 : IntKind.u8.wrap ((n : Int) / 72057594037927936) = ((UInt8.ofNat (n / 2 ^ 56 % 256)).toNat : Int) := shr8 n 56
  have E0 := Lib.hid e0
  clear e0
  go_wp2_with fail
  go_region_held3 (fun _ => True) (trivial) ((go_at_call 69; rw [E0.out]; (with_reducible refine (HW.out ([3]) (by simp) _ _ hb1.drew).mono ?_); rintro e v0 ⟨rfl, s0, t0⟩))
  rw [List.append_assoc] at s0
  have u0 := hW1.drew.trans t0
  clear hb1 hW1 t0 E0
  go_wp2_with fail
  rw [rounds_succ]
  have e1 : IntKind.u8.wrap ((n : Int) / 281474976710656) = ((UInt8.ofNat (n / 2 ^ 48 % 256)).toNat : Int) := shr8 n 48
  have E1 := Lib.hid e1
  clear e1
  go_wp2_with fail
  go_region_held3 (fun _ => True) (trivial) ((go_at_call 69; rw [E1.out]; (with_reducible refine (HW.out ([3] ++ [UInt8.ofNat (n / 2 ^ 56 % 256)]) (by simp) _ _ s0.drew).mono ?_); rintro e v1 ⟨rfl, s1, t1⟩))
  rw [List.append_assoc] at s1
  have u1 := u0.drew.trans t1
  clear s0 u0 t1 E1
  go_wp2_with fail
  rw [rounds_succ]
  have e2 : IntKind.u8.wrap ((n : Int) / 1099511627776) = ((UInt8.ofNat (n / 2 ^ 40 % 256)).toNat : Int) := shr8 n 40
  have E2 := Lib.hid e2
  clear e2
  go_wp2_with fail
  go_region_held3 (fun _ => True) (trivial) ((go_at_call 69; rw [E2.out]; (with_reducible refine (HW.out ([3] ++ [UInt8.ofNat (n / 2 ^ 56 % 256)] ++ [UInt8.ofNat (n / 2 ^ 48 % 256)]) (by simp) _ _ s1.drew).mono ?_); rintro e v2 ⟨rfl, s2, t2⟩))
  rw [List.append_assoc] at s2
  have u2 := u1.drew.trans t2
  clear s1 u1 t2 E2
  go_wp2_with fail
  rw [rounds_succ]
  have e3 : IntKind.u8.wrap ((n : Int) / 4294967296) = ((UInt8.ofNat (n / 2 ^ 32 % 256)).toNat : Int) := shr8 n 32
  have E3 := Lib.hid e3
  clear e3
  go_wp2_with fail
  go_region_held3 (fun _ => True) (trivial) ((go_at_call 69; rw [E3.out]; (with_reducible refine (HW.out ([3] ++ [UInt8.ofNat (n / 2 ^ 56 % 256)] ++ [UInt8.ofNat (n / 2 ^ 48 % 256)] ++ [UInt8.ofNat (n / 2 ^ 40 % 256)]) (by simp) _ _ s2.drew).mono ?_); rintro e v3 ⟨rfl, s3, t3⟩))
  rw [List.append_assoc] at s3
  have u3 := u2.drew.trans t3
  clear s2 u2 t3 E3
  go_wp2_with fail
  rw [rounds_succ]
  have e4 : IntKind.u8.wrap ((n : Int) / 16777216) = ((UInt8.ofNat (n / 2 ^ 24 % 256)).toNat : Int) := shr8 n 24
  have E4 := Lib.hid e4
  clear e4
  go_wp2_with fail
  go_region_held3 (fun _ => True) (trivial) ((go_at_call 69; rw [E4.out]; (with_reducible refine (HW.out ([3] ++ [UInt8.ofNat (n / 2 ^ 56 % 256)] ++ [UInt8.ofNat (n / 2 ^ 48 % 256)] ++ [UInt8.ofNat (n / 2 ^ 40 % 256)] ++ [UInt8.ofNat (n / 2 ^ 32 % 256)]) (by simp) _ _ s3.drew).mono ?_); rintro e v4 ⟨rfl, s4, t4⟩))
  rw [List.append_assoc] at s4
  have u4 := u3.drew.trans t4
  clear s3 u3 t4 E4
  go_wp2_with fail
  rw [rounds_succ]
  have e5 : IntKind.u8.wrap ((n : Int) / 65536) = ((UInt8.ofNat (n / 2 ^ 16 % 256)).toNat : Int) := shr8 n 16
  have E5 := Lib.hid e5
  clear e5
  go_wp2_with fail
  go_region_held3 (fun _ => True) (trivial) ((go_at_call 69; rw [E5.out]; (with_reducible refine (HW.out ([3] ++ [UInt8.ofNat (n / 2 ^ 56 % 256)] ++ [UInt8.ofNat (n / 2 ^ 48 % 256)] ++ [UInt8.ofNat (n / 2 ^ 40 % 256)] ++ [UInt8.ofNat (n / 2 ^ 32 % 256)] ++ [UInt8.ofNat (n / 2 ^ 24 % 256)]) (by simp) _ _ s4.drew).mono ?_); rintro e v5 ⟨rfl, s5, t5⟩))
  rw [List.append_assoc] at s5
  have u5 := u4.drew.trans t5
  clear s4 u4 t5 E5
  go_wp2_with fail
  rw [rounds_succ]
  have e6 : IntKind.u8.wrap ((n : Int) / 256) = ((UInt8.ofNat (n / 2 ^ 8 % 256)).toNat : Int) := shr8 n 8
  have E6 := Lib.hid e6
  clear e6
  go_wp2_with fail
  go_region_held3 (fun _ => True) (trivial) ((go_at_call 69; rw [E6.out]; (with_reducible refine (HW.out ([3] ++ [UInt8.ofNat (n / 2 ^ 56 % 256)] ++ [UInt8.ofNat (n / 2 ^ 48 % 256)] ++ [UInt8.ofNat (n / 2 ^ 40 % 256)] ++ [UInt8.ofNat (n / 2 ^ 32 % 256)] ++ [UInt8.ofNat (n / 2 ^ 24 % 256)] ++ [UInt8.ofNat (n / 2 ^ 16 % 256)]) (by simp) _ _ s5.drew).mono ?_); rintro e v6 ⟨rfl, s6, t6⟩))
  rw [List.append_assoc] at s6
  have u6 := u5.drew.trans t6
  clear s5 u5 t6 E6
  go_wp2_with fail
  rw [rounds_succ]
  have e7 : IntKind.u8.wrap ((n : Int)) = ((UInt8.ofNat (n / 2 ^ 0 % 256)).toNat : Int) := by have := shr8 n 0; simpa using this
  have E7 := Lib.hid e7
  clear e7
  go_wp2_with fail
  go_region_held3 (fun _ => True) (trivial) ((go_at_call 69; rw [E7.out]; (with_reducible refine (HW.out ([3] ++ [UInt8.ofNat (n / 2 ^ 56 % 256)] ++ [UInt8.ofNat (n / 2 ^ 48 % 256)] ++ [UInt8.ofNat (n / 2 ^ 40 % 256)] ++ [UInt8.ofNat (n / 2 ^ 32 % 256)] ++ [UInt8.ofNat (n / 2 ^ 24 % 256)] ++ [UInt8.ofNat (n / 2 ^ 16 % 256)] ++ [UInt8.ofNat (n / 2 ^ 8 % 256)]) (by simp) _ _ s6.drew).mono ?_); rintro e v7 ⟨rfl, s7, t7⟩))
  rw [List.append_assoc] at s7
  have u7 := u6.drew.trans t7
  clear s6 u6 t7 E7
  go_wp2_with fail
  rw [rounds_succ]
  go_wp2_with fail
  go_end0
  exact ⟨rfl, by rw [HE.out]; exact s7, u7⟩
end
section
open Go.RowKit
set_option maxRecDepth 100000 in
set_option maxHeartbeats 8000000 in
theorem cvalue_any : ∀ (d : Nat) (v : VT) (g o far : Nat) (W0 : World) (B b : Nat) (q : List UInt8) (w : World), PtrTo W0 d v g o → W0.heap.size = B → Below B W0 w → Bld 204 B b q w → rightV v far = true → q.length + (encV v).length ≤ 8000000 →
    Calls Tryz.prog 101 #[.pointer (some ⟨b, 0, none⟩), .pointer (some ⟨g, o, none⟩)] w fun e w' => e = .returned (.tuple #[]) ∧ Bld 204 B b (q ++ encV v) w' ∧ Wrote B b w w'
  | 0, _, _, _, _, _, _, _, _, _, h, _, _, _, _, _ => by obtain ⟨_, _, h, _⟩ := h; exact h.elim
  | d + 1, v, g, o, 0, W0, B, b, q, w, h, hW0, hB0, hbd, hr, hlen => by rw [right0] at hr; cases hr
  | d + 1, v, g, o, far + 1, W0, B, b, q, w, h, hW0, hB0, hbd, hr, hlen => by
    have ih := Lib.hid (cvalue_any d)
    by_cases k3 : v.kind = 3
    · exact cvalue_float (d + 1) v g o B b q W0 w h hW0 hB0 hbd k3 (by omega)
    by_cases k1 : v.kind = 5
    · clear k3
      obtain ⟨pn, p, cap, hg, x0, x1, x2, x3, x4, x5, h4, h5, h6, h7, h9⟩ := h.open
      rw [k1] at x0
      rw [hW0] at hg
      have hnm := h6
      obtain ⟨pp, pc, rfl⟩ := h6.lenOf
      have HKc := Lib.hid (fun w' (hb : Below B W0 w') => (show w'.cell? ⟨g, o, none⟩ = some (.int .i64 5) ∧ w'.cell? ⟨g, o + 4, none⟩ = some (.slice pp v.names.length pc) ∧ w'.cell? ⟨g, o + 5, none⟩ = some (.slice p v.items.length cap) from ⟨(hb.cell (p := ⟨g, o, none⟩) hg).trans x0, (hb.cell (p := ⟨g, o + 4, none⟩) hg).trans x4, (hb.cell (p := ⟨g, o + 5, none⟩) hg).trans x5⟩))
      rw [right5 k1, Bool.and_eq_true, Bool.and_eq_true, decide_eq_true_eq] at hr
      have hall := hr.2.2
      have HAll := Lib.hid (fun i (hi : i < v.items.length) => (show rightV (v.items.getD i noVT) far = true from rightL_mem hall _ (by simp [List.getD, hi])))
      have hpw := pszL_ge v.items
      have hps : psz v = pszL v.items + 1 := by cases v; rw [psz]; rfl
      have HEq := enc5 k1
      have H9 := Lib.hid h9
      clear hnm hall hr h9 h6 h5 h4 h x0 x1 x2 x3 x4 x5 k1
      generalize v.items = its at *
      generalize v.names = ns at *
      rw [HEq] at hlen ⊢
      generalize hM : its.length = M at *
      generalize hN : ns.length = N at *
      have hbd0 := hlen
      simp only [List.length_cons, List.length_append] at hbd0
      have HM := Lib.hid hM; have HN := Lib.hid hN
      clear hM hN HEq
      have HW1 := Lib.hid (fun w' (h' : Bld 204 B b q w') => (show Calls Tryz.prog 69 #[.pointer (some ⟨b, 0, none⟩), .int .u8 5] w' fun e w'' => e = .returned .nilIface ∧ Bld 204 B b (q ++ [5]) w'' ∧ Wrote B b w' w'' from h'.write bt_codec (by omega) 5))
      have HU := Lib.hid (fun w' (h' : Bld 204 B b (q ++ [5]) w') => cuint_any M (by omega) B b (q ++ [5]) (by simp; omega) w' h')
      have hwM : IntKind.u64.wrap (M : Int) = (M : Int) := by rw [IntKind.wrap_u64]; omega
      have wk : IntKind.u8.wrap 5 = 5 := by decide
      have hlr : q.length + ((5 : UInt8) :: (uintS M ++ encL false ns its)).length ≤ 8000000 := hlen
      generalize hRest : (5 : UInt8) :: (uintS M ++ encL false ns its) = rest at *
      have hstart : rest = ([5] ++ uintS M) ++ encL false (ns.drop 0) (its.drop 0) := by rw [← hRest]; rfl
      have HSt := Lib.hid hstart
      clear hRest hstart hlen
      go_enter Tryz.func101, Tryz.ntmps101
      go_wp2_with fail
      go_region_held3 (fun w' => w'.cell? ⟨g, o, none⟩ = some (.int .i64 5) ∧ w'.cell? ⟨g, o + 4, none⟩ = some (.slice pp N pc) ∧ w'.cell? ⟨g, o + 5, none⟩ = some (.slice p M cap)) (first | exact HKc.out _ hB0.drew | go_keep | exact HKc.out _ (hB0.drew.trans hw1.1)) ((go_at_call 69; (with_reducible refine (HW1.out _ hbd.drew).mono ?_); rintro e w1 ⟨rfl, hb1, hw1⟩))
      clear wk
      have hB1 := hB0.drew.trans hw1.1
      have hW1 : Wrote B b w w1 := (Wrote.refl B b w).drew.trans hw1
      obtain ⟨y0, y4, y5⟩ := HKc.out _ hB1
      go_wp2_with fail
      refine (HU.out _ hb1).mono ?_; rintro e w2 ⟨rfl, hb2, hw2⟩
      have hB2 := hB1.trans hw2.1
      have hW2 := hW1.trans hw2
      rw [List.append_assoc] at hb2
      clear y0 y4 y5 hB1 hW1 hb1 hw1 hw2
      obtain ⟨y0, y4, y5⟩ := HKc.out _ hB2
      go_wp2_with fail
      clear y0 y4 y5
      go_loopw [33] (fun iv wr => ∃ (i : Nat) (r : List UInt8), i ≤ M ∧ iv = .int .i64 i ∧ Bld 204 B b (q ++ r) wr ∧ Wrote B b w wr ∧ Below B W0 wr ∧ Hid (rest = r ++ encL false (ns.drop i) (its.drop i))) (fun iv _ => M - (intOf iv).toNat)
      case atStart => exact ⟨0, _, by omega, rfl, hb2, hW2, hB2, HSt.out⟩
      case round =>
        clear hb2 hW2 hB2
        obtain ⟨i, r, hi, rfl, hbr, hWr, hBr, hE⟩ := hrel
        obtain ⟨y0, y4, y5⟩ := HKc.out _ hBr
        by_cases hlt : i < M
        · have t7 : decide ((i : Int) < (M : Int)) = true := by simp; omega
          obtain ⟨g', o', rfl, hg', hv⟩ := H9.out i hlt
          have hri := HAll.out i hlt
          have hD := encL_drop5 (its := its) (ns := ns) (i := i) (by rw [HM.out]; exact hlt)
          have hE2 := hE.out
          rw [hD] at hE2
          have hln := congrArg List.length hE2
          simp only [List.length_append] at hln
          generalize its.getD i noVT = x at *
          have HV := Lib.hid (ih.out x g' (o' + i * 6) far W0 B b (q ++ r) wr hv hW0 hBr hbr hri (by simp; omega))
          have HE2 := Lib.hid hE2
          have b1 : (0 : Int) ≤ (i : Int) := by omega
          have b2 : (i : Int) < (M : Int) := by omega
          clear hD hE2 hv hri hln
          go_wp2_with fail
          refine (HV.out).mono ?_; rintro e w4 ⟨rfl, hb4, hw4⟩
          have hB4 := hBr.trans hw4.1
          have hW4 := hWr.trans hw4
          rw [List.append_assoc] at hb4
          go_wp2_with fail
          go_roundw
          case rel => exact ⟨i + 1, _, by omega, by go_num, hb4, hW4, hB4, by show _ = _; rw [HE2.out]; simp only [List.append_assoc]⟩
          case measure => simp [intOf]; omega
        · have t7 : decide ((i : Int) < (M : Int)) = false := by simp; omega
          have HF := Lib.hid (encL_end (named := false) (its := its) (ns := ns.drop i) (i := i) (by rw [HM.out]; omega))
          go_wp2_with fail
          go_end0
          exact ⟨rfl, by rw [hE.out, HF.out, List.append_nil]; exact hbr, hWr⟩
    have k5 := k1
    clear k1
    by_cases k1 : v.kind = 6
    · clear k3 k5
      obtain ⟨pn, p, cap, hg, x0, x1, x2, x3, x4, x5, h4, h5, h6, h7, h9⟩ := h.open
      rw [k1] at x0
      rw [hW0] at hg
      have hnm := h6
      obtain ⟨pp, pc, rfl⟩ := h6.lenOf
      have HKc := Lib.hid (fun w' (hb : Below B W0 w') => (show w'.cell? ⟨g, o, none⟩ = some (.int .i64 6) ∧ w'.cell? ⟨g, o + 4, none⟩ = some (.slice pp v.names.length pc) ∧ w'.cell? ⟨g, o + 5, none⟩ = some (.slice p v.items.length cap) from ⟨(hb.cell (p := ⟨g, o, none⟩) hg).trans x0, (hb.cell (p := ⟨g, o + 4, none⟩) hg).trans x4, (hb.cell (p := ⟨g, o + 5, none⟩) hg).trans x5⟩))
      rw [right6 k1, Bool.and_eq_true, Bool.and_eq_true, Bool.and_eq_true, decide_eq_true_eq] at hr
      have hNM := hr.1
      have hall := hr.2.2.2
      have hn30 := rises_len hr.2.1
      have HNames := Lib.hid (fun w' (hb : Below B W0 w') i (hi : i < v.names.length) => (show ∃ g' o', pp = some ⟨g', o', none⟩ ∧ w'.cell? ⟨g', o' + i, none⟩ = some (.string ⟨(v.names.getD i []).toArray⟩) ∧ (v.names.getD i []).length ≤ 30 from by
        rcases hnm.2.2 with ⟨hz, _⟩ | ⟨g', o', cap', hv, hg', hc⟩
        · rw [hz] at hi; simp at hi
        · injection hv with hv
          refine ⟨g', o', hv, (hb.cell (p := ⟨g', o' + i, none⟩) (by rw [← hW0]; exact hg')).trans (hc i hi), hn30 _ ?_⟩
          simp [List.getD, hi]))
      have HAll := Lib.hid (fun i (hi : i < v.items.length) => (show rightV (v.items.getD i noVT) far = true from rightL_mem hall _ (by simp [List.getD, hi])))
      have hpw := pszL_ge v.items
      have hps : psz v = pszL v.items + 1 := by cases v; rw [psz]; rfl
      have HEq := enc6 k1
      have H9 := Lib.hid h9
      clear hnm hall hr h9 h6 h5 h4 h x0 x1 x2 x3 x4 x5 k1
      generalize v.items = its at *
      generalize v.names = ns at *
      rw [HEq] at hlen ⊢
      generalize hM : its.length = M at *
      generalize hN : ns.length = N at *
      have hbd0 := hlen
      simp only [List.length_cons, List.length_append] at hbd0
      have HM := Lib.hid hM; have HN := Lib.hid hN
      clear hM hN HEq
      have HNM := Lib.hid hNM
      clear hNM
      have HW1 := Lib.hid (fun w' (h' : Bld 204 B b q w') => (show Calls Tryz.prog 69 #[.pointer (some ⟨b, 0, none⟩), .int .u8 6] w' fun e w'' => e = .returned .nilIface ∧ Bld 204 B b (q ++ [6]) w'' ∧ Wrote B b w' w'' from h'.write bt_codec (by omega) 6))
      have HU := Lib.hid (fun w' (h' : Bld 204 B b (q ++ [6]) w') => cuint_any M (by omega) B b (q ++ [6]) (by simp; omega) w' h')
      have hwM : IntKind.u64.wrap (M : Int) = (M : Int) := by rw [IntKind.wrap_u64]; omega
      have wk : IntKind.u8.wrap 6 = 6 := by decide
      have hlr : q.length + ((6 : UInt8) :: (uintS M ++ encL true ns its)).length ≤ 8000000 := hlen
      generalize hRest : (6 : UInt8) :: (uintS M ++ encL true ns its) = rest at *
      have hstart : rest = ([6] ++ uintS M) ++ encL true (ns.drop 0) (its.drop 0) := by rw [← hRest]; rfl
      have HSt := Lib.hid hstart
      clear hRest hstart hlen
      go_enter Tryz.func101, Tryz.ntmps101
      go_wp2_with fail
      go_region_held3 (fun w' => w'.cell? ⟨g, o, none⟩ = some (.int .i64 6) ∧ w'.cell? ⟨g, o + 4, none⟩ = some (.slice pp N pc) ∧ w'.cell? ⟨g, o + 5, none⟩ = some (.slice p M cap)) (first | exact HKc.out _ hB0.drew | go_keep | exact HKc.out _ (hB0.drew.trans hw1.1)) ((go_at_call 69; (with_reducible refine (HW1.out _ hbd.drew).mono ?_); rintro e w1 ⟨rfl, hb1, hw1⟩))
      clear wk
      have hB1 := hB0.drew.trans hw1.1
      have hW1 : Wrote B b w w1 := (Wrote.refl B b w).drew.trans hw1
      obtain ⟨y0, y4, y5⟩ := HKc.out _ hB1
      go_wp2_with fail
      refine (HU.out _ hb1).mono ?_; rintro e w2 ⟨rfl, hb2, hw2⟩
      have hB2 := hB1.trans hw2.1
      have hW2 := hW1.trans hw2
      rw [List.append_assoc] at hb2
      clear y0 y4 y5 hB1 hW1 hb1 hw1 hw2
      obtain ⟨y0, y4, y5⟩ := HKc.out _ hB2
      go_wp2_with fail
      clear y0 y4 y5
      go_loopw [33] (fun iv wr => ∃ (i : Nat) (r : List UInt8), i ≤ M ∧ iv = .int .i64 i ∧ Bld 204 B b (q ++ r) wr ∧ Wrote B b w wr ∧ Below B W0 wr ∧ Hid (rest = r ++ encL true (ns.drop i) (its.drop i))) (fun iv _ => M - (intOf iv).toNat)
      case atStart => exact ⟨0, _, by omega, rfl, hb2, hW2, hB2, HSt.out⟩
      case round =>
        clear hb2 hW2 hB2
        obtain ⟨i, r, hi, rfl, hbr, hWr, hBr, hE⟩ := hrel
        obtain ⟨y0, y4, y5⟩ := HKc.out _ hBr
        by_cases hlt : i < M
        · have t7 : decide ((i : Int) < (M : Int)) = true := by simp; omega
          obtain ⟨g', o', rfl, hg', hv⟩ := H9.out i hlt
          have hri := HAll.out i hlt
          have hD := encL_drop6 (its := its) (ns := ns) (i := i) (by rw [HM.out]; exact hlt) (by have := HNM.out; rw [HN.out]; omega)
          obtain ⟨gn, on, rfl, hcn, hn30⟩ := HNames.out _ hBr i (by have := HNM.out; omega)
          have hE2 := hE.out
          rw [hD] at hE2
          have hln := congrArg List.length hE2
          simp only [List.length_append] at hln
          generalize its.getD i noVT = x at *
          generalize ns.getD i [] = nm at *
          have HS := Lib.hid (cstr_any nm (by omega) B b (q ++ r) (by simp; omega) wr hbr)
          have HV := Lib.hid (fun w' (hb' : Bld 204 B b (q ++ (r ++ strE nm)) w') (hB' : Below B W0 w') => ih.out x g' (o' + i * 6) far W0 B b (q ++ (r ++ strE nm)) w' hv hW0 hB' hb' hri (by simp; omega))
          have HE2 := Lib.hid hE2
          have b1 : (0 : Int) ≤ (i : Int) := by omega
          have b2 : (i : Int) < (M : Int) := by omega
          clear hD hE2 hv hri hln
          have b3 : (i : Int) < (N : Int) := by have := HNM.out; omega
          go_wp2_with fail
          refine (HS.out).mono ?_; rintro e w3 ⟨rfl, hb3, hw3⟩
          have hB3 := hBr.trans hw3.1
          have hW3 := hWr.trans hw3
          rw [List.append_assoc] at hb3
          clear y0 y4 y5 hcn
          obtain ⟨y0, y4, y5⟩ := HKc.out _ hB3
          go_wp2_with fail
          refine (HV.out _ hb3 hB3).mono ?_; rintro e w4 ⟨rfl, hb4, hw4⟩
          have hB4 := hB3.trans hw4.1
          have hW4 := hW3.trans hw4
          rw [List.append_assoc] at hb4
          go_wp2_with fail
          go_roundw
          case rel => exact ⟨i + 1, _, by omega, by go_num, hb4, hW4, hB4, by show _ = _; rw [HE2.out]; simp only [List.append_assoc]⟩
          case measure => simp [intOf]; omega
        · have t7 : decide ((i : Int) < (M : Int)) = false := by simp; omega
          have HF := Lib.hid (encL_end (named := true) (its := its) (ns := ns.drop i) (i := i) (by rw [HM.out]; omega))
          go_wp2_with fail
          go_end0
          exact ⟨rfl, by rw [hE.out, HF.out, List.append_nil]; exact hbr, hWr⟩
    exact cvalue_leaf (d + 1) v g o (far + 1) B b q W0 w h hW0 hB0 hbd hr ⟨k3, k5, k1⟩ hlen
end
section
open Go.RowKit
/-- what codec.Value answers -/
def cvalT (v : VT) : Value := if rightB v = true then .tuple #[.string ⟨(encV v).toArray⟩, .int .i64 0] else .tuple #[.string ⟨#[]⟩, .int .i64 5]
set_option maxRecDepth 100000 in
set_option maxHeartbeats 2000000 in
theorem cValue_any (d : Nat) (v : VT) (cs : Array Value) (w : World) (h : ValAt w d v cs) : Calls Tryz.prog 70 #[.agg cs] w (Gives (cvalT v) w) := by
  obtain ⟨pn, p, cap, rfl⟩ := h.six
  have hb := h.box
  have hB : Below w.heap.size w (w.alloc (.cells #[.int .i64 v.kind, .int .i64 v.num, .float .f64 v.flt, .string ⟨v.str.toArray⟩, pn, .slice p v.items.length cap] 57)) := (Below.refl _ _).alloc (Nat.le_refl _) _
  generalize hw0 : w.alloc (.cells #[.int .i64 v.kind, .int .i64 v.num, .float .f64 v.flt, .string ⟨v.str.toArray⟩, pn, .slice p v.items.length cap] 57) = w0 at *
  have HR := Lib.hid (vRight_any d v _ _ (h.kept hB))
  cases hr : rightB v with
  | false =>
    have HV := Lib.hid (show cvalT v = .tuple #[.string ⟨#[]⟩, .int .i64 5] from by rw [cvalT, hr]; rfl)
    rw [hr] at HR
    clear hr h hb
    subst hw0
    go_enter Tryz.func70, Tryz.ntmps70
    go_wp2_with fail
    refine (HR.out).mono ?_; rintro e w2 ⟨rfl, hb2⟩
    go_wp2_with fail
    go_ret2
    exact ⟨ret_val (by rw [HV.out]; rfl), hB.trans (hb2.mono hB.size)⟩
  | true =>
    have HV := Lib.hid (show cvalT v = .tuple #[.string ⟨(encV v).toArray⟩, .int .i64 0] from by rw [cvalT, hr]; rfl)
    have hlen := rightB_len hr
    have hrv : rightV v 12 = true := by
      have hR := rightB.eq_def v
      rw [hr] at hR; simp only [Bool.true_eq, Bool.and_eq_true] at hR; exact hR.2
    have HW := Lib.hid (fun w' (hb' : Below w0.heap.size w0 w') => cvalue_any d v w.heap.size 0 12 w' w'.heap.size w'.heap.size [] (w'.alloc (.cells #[.pointer none, .slice none 0 0] 204)) (hb.kept hb') rfl ((Below.refl _ _).alloc (Nat.le_refl _) _) (Bld.fresh 204 w') hrv (by simp; omega))
    rw [hr] at HR
    have HT := Lib.hid (fun (B b : Nat) (o : List UInt8) (w : World) (h : Bld 204 B b o w) => h.text bt_codec)
    clear hr h hb hrv hlen
    subst hw0
    go_enter Tryz.func70, Tryz.ntmps70
    go_wp2_with fail
    refine (HR.out).mono ?_; rintro e w2 ⟨rfl, hb2⟩
    go_wp2_with fail
    refine (HW.out _ hb2).mono ?_; rintro e w3 ⟨rfl, hb3, hw3⟩
    go_wp2_with fail
    refine (HT.out _ _ _ _ hb3).mono ?_; rintro e w4 ⟨rfl, hb4⟩
    go_wp2_with fail
    go_ret2
    have hC : Below _ _ w4 := (((Below.refl _ _).alloc (Nat.le_refl _) (.cells #[.pointer none, .slice none 0 0] 204)).trans hw3.1).trans hb4
    exact ⟨ret_val (by rw [HV.out]; rfl), hB.trans ((hb2.trans (hC.mono hb2.size)).mono hB.size)⟩
end
section
open Go.RowKit
set_option maxRecDepth 100000 in
set_option maxHeartbeats 8000000 in
theorem nothing_any (d : Nat) (v : VT) (g o : Nat) (w : World) (h : PtrTo w (d + 1) v g o) (hk : v.kind = 0) :
    Calls Tryz.prog 135 #[.pointer (some ⟨g, o, none⟩)] w fun e w' => e = .returned (.bool (bareV v false false false false)) ∧ w = w' := by
  obtain ⟨pn, p, cap, hg, x0, x1, x2, x3, x4, x5, h4, h5, h6, h7, h9⟩ := h.open
  rw [hk] at x0
  have HO := Lib.hid (fun w => order_any v.flt 0 h4 (by unfold F64; omega) w)
  have hz := ord_zero h4
  obtain ⟨pp, pc, rfl⟩ := h6.lenOf
  have HB := bareV.eq_def v false false false false
  clear h9 h5 h6 h7 h hg h4 hk
  have hnm : v.names.isEmpty = decide (v.names.length = 0) := by cases v.names <;> simp
  have hit : v.items.isEmpty = decide (v.items.length = 0) := by cases v.items <;> simp
  have hst : v.str.isEmpty = (⟨v.str.toArray⟩ : ByteArray).toList.isEmpty := by rw [ByteArray.toList_eq]
  rw [hnm, hit, hst, ← hz] at HB
  generalize v.names.length = N at *
  generalize v.items.length = M at *
  generalize (⟨v.str.toArray⟩ : ByteArray) = S at *
  generalize v.num = K at *
  generalize ordB v.flt 0 = Z at *
  clear hnm hit hst hz
  by_cases c1 : K = 0
  · have t1 : (K == 0) = true := by rw [c1]; rfl
    rw [show decide (K = 0) = true from decide_eq_true c1] at HB
    clear c1
    by_cases c2 : Z = 0
    · have t2 : (Z == 0) = true := by rw [c2]; rfl
      rw [t2] at HB
      clear c2
      by_cases c3 : S.toList = []
      · have t3 : S.toList.isEmpty = true := by rw [c3]; rfl
        rw [t3] at HB
        by_cases c4 : N = 0
        · have t4 : ((N : Int) == 0) = true := by rw [c4]; rfl
          rw [show decide (N = 0) = true from decide_eq_true c4] at HB
          by_cases c5 : M = 0
          · have t5 : ((M : Int) == 0) = true := by rw [c5]; rfl
            rw [show decide (M = 0) = true from decide_eq_true c5] at HB
            have HB := Lib.hid HB
            clear c4 c5
            go_enter Tryz.func135, Tryz.ntmps135
            go_wp2_with (go_at_call 154; refine (HO.out _).mono ?_; rintro e w' ⟨rfl, rfl⟩)
            go_ret
            exact ⟨ret_val (by rw [HB.out]; rfl), rfl⟩
          · have t5 : ((M : Int) == 0) = false := by rw [beq_eq_false_iff_ne]; omega
            rw [show decide (M = 0) = false from decide_eq_false c5] at HB
            have HB := Lib.hid HB
            clear c4
            go_enter Tryz.func135, Tryz.ntmps135
            go_wp2_with (go_at_call 154; refine (HO.out _).mono ?_; rintro e w' ⟨rfl, rfl⟩)
            go_ret
            exact ⟨ret_val (by rw [HB.out]; rfl), rfl⟩
        · have t4 : ((N : Int) == 0) = false := by rw [beq_eq_false_iff_ne]; omega
          rw [show decide (N = 0) = false from decide_eq_false c4] at HB
          have HB := Lib.hid HB
          go_enter Tryz.func135, Tryz.ntmps135
          go_wp2_with (go_at_call 154; refine (HO.out _).mono ?_; rintro e w' ⟨rfl, rfl⟩)
          go_ret
          exact ⟨ret_val (by rw [HB.out]; rfl), rfl⟩
      · have t3 : S.toList.isEmpty = false := by cases hh : S.toList with | nil => exact absurd hh c3 | cons a b => rfl
        rw [t3] at HB
        have HB := Lib.hid HB
        go_enter Tryz.func135, Tryz.ntmps135
        go_wp2_with (go_at_call 154; refine (HO.out _).mono ?_; rintro e w' ⟨rfl, rfl⟩)
        go_ret
        exact ⟨ret_val (by rw [HB.out]; rfl), rfl⟩
    · have t2 : (Z == 0) = false := beq_eq_false_iff_ne.2 c2
      rw [t2] at HB
      clear c2
      have HB := Lib.hid HB
      go_enter Tryz.func135, Tryz.ntmps135
      go_wp2_with (go_at_call 154; refine (HO.out _).mono ?_; rintro e w' ⟨rfl, rfl⟩)
      go_ret
      exact ⟨ret_val (by rw [HB.out]; rfl), rfl⟩
  · have t1 : (K == 0) = false := beq_eq_false_iff_ne.2 c1
    rw [show decide (K = 0) = false from decide_eq_false c1] at HB
    clear c1
    have HB := Lib.hid HB
    go_enter Tryz.func135, Tryz.ntmps135
    go_wp2_with (go_at_call 154; refine (HO.out _).mono ?_; rintro e w' ⟨rfl, rfl⟩)
    go_ret
    exact ⟨ret_val (by rw [HB.out]; rfl), rfl⟩
/-- an expression in memory: the variable x with a value -/
def ExAt (w : World) (d : Nat) (v : VT) (g : Nat) : Prop := ∃ pn pi, w.heap[g]? = some (.cells #[.int .i64 2, .string ⟨#[120]⟩, .int .i64 v.kind, .int .i64 v.num, .float .f64 v.flt, .string ⟨v.str.toArray⟩, pn, pi, .slice none 0 0, .slice none 0 0] 115 (0, 0)) ∧ ValAt w d v #[.int .i64 v.kind, .int .i64 v.num, .float .f64 v.flt, .string ⟨v.str.toArray⟩, pn, pi]
theorem ExAt.kept {w w' : World} {d : Nat} {v : VT} {g : Nat} (h : ExAt w d v g) (hb : Below w.heap.size w w') : ExAt w' d v g := by
  obtain ⟨pn, pi, h1, h2⟩ := h
  exact ⟨pn, pi, (hb.block g (lt_of_block h1)).trans h1, h2.kept hb⟩
theorem ExAt.ptr {w : World} {d : Nat} {v : VT} {g : Nat} (h : ExAt w d v g) : PtrTo w d v g 2 := by
  obtain ⟨pn, pi, h1, h2⟩ := h
  refine ⟨lt_of_block h1, _, h2, fun j hj => ?_⟩
  rw [Lib.cell_of_heap h1]
  have : j = 0 ∨ j = 1 ∨ j = 2 ∨ j = 3 ∨ j = 4 ∨ j = 5 := by omega
  rcases this with rfl | rfl | rfl | rfl | rfl | rfl <;> rfl
theorem ExAt.cells {w : World} {d : Nat} {v : VT} {g : Nat} (h : ExAt w d v g) : w.cell? ⟨g, 0, none⟩ = some (.int .i64 2) ∧ w.cell? ⟨g, 1, none⟩ = some (.string ⟨#[120]⟩) ∧ w.cell? ⟨g, 8, none⟩ = some (.slice none 0 0) ∧ w.cell? ⟨g, 9, none⟩ = some (.slice none 0 0) := by
  obtain ⟨pn, pi, h1, h2⟩ := h
  rw [Lib.cell_of_heap h1, Lib.cell_of_heap h1, Lib.cell_of_heap h1, Lib.cell_of_heap h1]
  exact ⟨rfl, rfl, rfl, rfl⟩
theorem kids_2 (w : World) : Calls Tryz.prog 132 #[.int .i64 2] w fun e w' => e = .returned (.int .i64 0) ∧ w = w' := by
  go_enter Tryz.func132, Tryz.ntmps132
  go_wp2_with fail
  go_ret
  exact ⟨rfl, rfl⟩
theorem lexword_x (w : World) : Calls Tryz.prog 157 #[.string ⟨#[120]⟩] w fun e w' => e = .returned (.bool false) ∧ w = w' := by
  go_enter Tryz.func157, Tryz.ntmps157
  go_wp2_with fail
  go_ret
  exact ⟨rfl, rfl⟩
set_option maxRecDepth 100000 in
theorem field_x (w : World) : Calls Tryz.prog 158 #[.string ⟨#[120]⟩] w (Gives (.bool true) w) := by
  have HN := Lib.hid (fun w => vname_any ⟨#[120]⟩ w)
  have hn : nmB (⟨#[120]⟩ : ByteArray).data.toList = true := by decide
  rw [hn] at HN
  clear hn
  go_enter Tryz.func158, Tryz.ntmps158
  go_wp2_with (go_at_call 179; refine (HN.out _).mono ?_; rintro e w' ⟨rfl, hb⟩)
  go_ret
  exact ⟨rfl, hb⟩
set_option maxRecDepth 100000 in
theorem named_x (d : Nat) (v : VT) (g : Nat) (w : World) (h : ExAt w d v g) : Calls Tryz.prog 133 #[.pointer (some ⟨g, 0, none⟩)] w (Gives (.bool true) w) := by
  obtain ⟨c0, c1, c8, c9⟩ := h.cells
  have HL := Lib.hid (fun w => lexword_x w)
  have HF := Lib.hid (fun w => field_x w)
  have HC := Lib.hid (fun w' (hb : Below w.heap.size w w') => (h.kept hb).cells)
  clear h
  go_enter Tryz.func133, Tryz.ntmps133
  go_wp2_with fail
  refine (HL.out _).mono ?_; rintro e w' ⟨rfl, rfl⟩
  go_wp2_with (go_at_call 158; refine (HF.out _).mono ?_; rintro e w' ⟨rfl, hb⟩; obtain ⟨k0, k1, k8, k9⟩ := HC.out _ hb)
  go_ret
  exact ⟨rfl, hb⟩
set_option maxRecDepth 100000 in
set_option maxHeartbeats 2000000 in
theorem pright_x (d : Nat) (v : VT) (g : Nat) (hk : v.kind = 0) (w : World) (h : ExAt w (d + 1) v g) : Calls Tryz.prog 99 #[.pointer (some ⟨g, 0, none⟩), .int .i64 1] w (Gives (.bool (bareV v false false false false)) w) := by
  obtain ⟨c0, c1, c8, c9⟩ := h.cells
  have HK := Lib.hid (fun w => kids_2 w)
  have HN := Lib.hid (named_x _ v g w h)
  have HC := Lib.hid (fun w' (hb : Below w.heap.size w w') => (h.kept hb).cells)
  have HZ := Lib.hid (fun w' (hb : Below w.heap.size w w') => nothing_any d v g 2 w' (h.kept hb).ptr hk)
  clear h hk
  generalize bareV v false false false false = B at *
  cases B <;>
  · go_enter Tryz.func99, Tryz.ntmps99
    go_wp2_with fail
    refine (HK.out _).mono ?_; rintro e w' ⟨rfl, rfl⟩
    go_wp2_with (go_at_call 133; refine (HN.out).mono ?_; rintro e w2 ⟨rfl, hb⟩; obtain ⟨k0, k1, k8, k9⟩ := HC.out _ hb)
    go_wp2_with (go_at_call 135; refine (HZ.out _ hb).mono ?_; rintro e w3 ⟨rfl, rfl⟩)
    first
      | (go_ret; exact ⟨rfl, hb⟩)
      | (go_loopw [68] (fun iv wr => iv = .int .i64 0 ∧ wr = w2) (fun _ _ => 0)
         case atStart => exact ⟨rfl, rfl⟩
         case round =>
           obtain ⟨rfl, rfl⟩ := hrel
           go_wp2_with fail
           go_ret
           exact ⟨rfl, hb⟩)
end
section
open Go.RowKit
theorem ExAt.box {w : World} {d : Nat} {v : VT} {pn pi : Value} (h : ValAt w d v #[.int .i64 v.kind, .int .i64 v.num, .float .f64 v.flt, .string ⟨v.str.toArray⟩, pn, pi]) : ExAt (w.alloc (.cells #[.int .i64 2, .string ⟨#[120]⟩, .int .i64 v.kind, .int .i64 v.num, .float .f64 v.flt, .string ⟨v.str.toArray⟩, pn, pi, .slice none 0 0, .slice none 0 0] 115)) d v w.heap.size :=
  ⟨pn, pi, heap_alloc_new w _, h.kept ((Below.refl _ _).alloc (Nat.le_refl _) _)⟩
theorem counted_x (d : Nat) (v : VT) (g : Nat) (w : World) (h : ExAt w d v g) : Calls Tryz.prog 131 #[.pointer (some ⟨g, 0, none⟩), .int .i64 0] w fun e w' => e = .returned (.int .i64 1) ∧ w = w' := by
  obtain ⟨c0, c1, c8, c9⟩ := h.cells
  go_enter Tryz.func131, Tryz.ntmps131
  go_wp2_with fail
  go_loopw [13, 1] (fun iv nv wr => iv = .int .i64 0 ∧ nv = .int .i64 1 ∧ wr = w) (fun _ _ _ => 0)
  case atStart => exact ⟨rfl, rfl, rfl⟩
  case round =>
    obtain ⟨rfl, rfl, rfl⟩ := hrel
    go_wp2_with fail
    go_ret
    exact ⟨rfl, rfl⟩
set_option maxRecDepth 100000 in
theorem pparts_x (d : Nat) (v : VT) (pn pi : Value) (w : World) (h : ValAt w d v #[.int .i64 v.kind, .int .i64 v.num, .float .f64 v.flt, .string ⟨v.str.toArray⟩, pn, pi]) : Calls Tryz.prog 98 #[.agg #[.int .i64 2, .string ⟨#[120]⟩, .int .i64 v.kind, .int .i64 v.num, .float .f64 v.flt, .string ⟨v.str.toArray⟩, pn, pi, .slice none 0 0, .slice none 0 0]] w (Gives (.int .i64 1) w) := by
  have HC := Lib.hid (counted_x d v _ _ (ExAt.box h))
  have hB : Below w.heap.size w (w.alloc (.cells #[.int .i64 2, .string ⟨#[120]⟩, .int .i64 v.kind, .int .i64 v.num, .float .f64 v.flt, .string ⟨v.str.toArray⟩, pn, pi, .slice none 0 0, .slice none 0 0] 115)) := (Below.refl _ _).alloc (Nat.le_refl _) _
  clear h
  go_enter Tryz.func98, Tryz.ntmps98
  go_wp2_with fail
  refine (HC.out).mono ?_; rintro e w2 ⟨rfl, rfl⟩
  go_wp2_with fail
  go_ret
  exact ⟨rfl, hB⟩
set_option maxRecDepth 100000 in
set_option maxHeartbeats 2000000 in
theorem pRight_x (d : Nat) (v : VT) (pn pi : Value) (hk : v.kind = 0) (w : World) (h : ValAt w (d + 1) v #[.int .i64 v.kind, .int .i64 v.num, .float .f64 v.flt, .string ⟨v.str.toArray⟩, pn, pi]) : Calls Tryz.prog 68 #[.agg #[.int .i64 2, .string ⟨#[120]⟩, .int .i64 v.kind, .int .i64 v.num, .float .f64 v.flt, .string ⟨v.str.toArray⟩, pn, pi, .slice none 0 0, .slice none 0 0]] w (Gives (.bool (bareV v false false false false)) w) := by
  have hx := ExAt.box h
  have hB : Below w.heap.size w (w.alloc (.cells #[.int .i64 2, .string ⟨#[120]⟩, .int .i64 v.kind, .int .i64 v.num, .float .f64 v.flt, .string ⟨v.str.toArray⟩, pn, pi, .slice none 0 0, .slice none 0 0] 115)) := (Below.refl _ _).alloc (Nat.le_refl _) _
  have hnew : (w.alloc (.cells #[.int .i64 2, .string ⟨#[120]⟩, .int .i64 v.kind, .int .i64 v.num, .float .f64 v.flt, .string ⟨v.str.toArray⟩, pn, pi, .slice none 0 0, .slice none 0 0] 115)).heap[w.heap.size]? = some (.cells #[.int .i64 2, .string ⟨#[120]⟩, .int .i64 v.kind, .int .i64 v.num, .float .f64 v.flt, .string ⟨v.str.toArray⟩, pn, pi, .slice none 0 0, .slice none 0 0] 115 (0, 0)) := heap_alloc_new w _
  have HP := Lib.hid (pparts_x _ v pn pi _ (h.kept hB))
  have HR := Lib.hid (fun w' hb => pright_x d v w.heap.size hk w' (hx.kept hb))
  clear hx h hk
  go_enter Tryz.func68, Tryz.ntmps68
  go_wp2_with (first
    | (go_at_call 98; refine (HP.out).mono ?_; rintro e w2 ⟨rfl, hb2⟩)
    | (go_at_call 99; refine (HR.out _ hb2).mono ?_; rintro e w3 ⟨rfl, hb3⟩))
  go_ret
  exact ⟨rfl, hB.trans ((hb2.mono hB.size).trans (hb3.mono (Nat.le_trans hB.size hb2.size)))⟩
end
end Go.Proofs.YtnaamiecljinnaaGreat
