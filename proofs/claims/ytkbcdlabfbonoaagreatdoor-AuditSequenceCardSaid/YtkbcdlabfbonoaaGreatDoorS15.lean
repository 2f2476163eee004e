/-
  La4 in one text.
-/
import Derived.Below
import Derived.Deep.Cut
import Derived.Deep.QuietTactic
import Derived.KernelRfl
import Derived.Lib.Builder
import Derived.Lib.Hide
import Derived.OneCell
import Derived.OwnWalk
import Derived.ProofKit
import Derived.Tactics
import Derived.Test.YtkbcdlabfbonoaaGreatDoorChecked
import Derived.Test.YtkbcdlabfbonoaaGreatDoorS13
import Derived.Test.YtkbcdlabfbonoaaGreatDoorS14
namespace Go.Proofs.YtkbcdlabfbonoaaGreatDoor
open Go.RowKit
theorem tzt_str : ∀ r : Nat, r < 256 → (tzt.getD r 0) ≤ 8 := by
  intro r hr
  have h : (List.range 256).all (fun r => Nat.ble (tzt.getD r 0) 8) = true := by kernel_rfl
  exact Nat.le_of_ble_eq_true (List.all_eq_true.1 h r (List.mem_range.2 hr))
theorem tz_at {B : ByteArray} {r : Nat} (h : r < B.size) (e : B.data.toList.map (fun x => x.toNat) = tzt) : B[r].toNat = tzt.getD r 0 := by
  have hr : r < B.data.size := h
  have h1 : B[r] = B.data[r] := rfl
  rw [h1, ← e]
  simp only [List.getD, List.getElem?_map, Array.getElem?_toList, Array.getElem?_eq_getElem hr]
  rfl
theorem tz_wr {q t : Nat} (h : q = t) (ht : t ≤ 8) : Value.int .i64 (((q : Int) + 9223372036854775808) % 18446744073709551616 - 9223372036854775808) = .int .i64 (t : Int) := by
  subst h
  rw [show ((q : Int) + 9223372036854775808) % 18446744073709551616 - 9223372036854775808 = (q : Int) by omega]
set_option maxRecDepth 100000 in
theorem tz8_any (r : Nat) (hr : r < 256) (w : World) : Calls Tryz.prog 54 #[.int .u8 (r : Int)] w fun e w' => e = .returned (.int .i64 ((tzt.getD r 0 : Nat) : Int)) ∧ w = w' := by
  go_enter Tryz.func54, Tryz.ntmps54
  go_wp2_with fail
  next h =>
  go_ret
  exact ⟨lret (tz_wr (tz_at h (by kernel_rfl)) (tzt_str r hr)), rfl⟩
/-- the first label of a row whose own row has them all -/
def leastC (s : Nat → Bool) (rows : Nat → Nat → Bool) : Option Nat := (List.range 8).find? fun c => s c && (List.range 8).all fun y => !(s y) || rows c y
theorem leastC_rest {s : Nat → Bool} {rows : Nat → Nat → Bool} {c : Nat} (hc : c < 8) (hsc : s c = true) (hb : ∀ y, y < c → s y = true → (List.range 8).all (fun z => !(s z) || rows y z) = false) :
    (List.range 8).all (fun y => !(s y) || rows c y) = true → leastC s rows = some c := by
  intro h
  unfold leastC
  rw [List.find?_eq_some_iff_getElem]
  refine ⟨by rw [hsc, h]; rfl, c, by simpa using hc, by simp, fun j hj => ?_⟩
  simp only [List.getElem_range]
  cases hs : s j with
  | false => rfl
  | true => rw [hb j hj hs]; rfl
theorem leastC_none {s : Nat → Bool} {rows : Nat → Nat → Bool} (hb : ∀ y, y < 8 → s y = true → (List.range 8).all (fun z => !(s z) || rows y z) = false) : leastC s rows = none := by
  unfold leastC
  rw [List.find?_eq_none]
  intro x hx
  have hx := List.mem_range.1 hx
  cases hs : s x with
  | false => simp
  | true => rw [hb x hx hs]; simp
/-- the rest of a row while its least is looked for -/
def LRel (s : Nat → Bool) (R : Nat → Nat → Bool) (f : Nat → Bool) : Prop := (∀ y, y < 8 → f y = true → s y = true) ∧ ∀ y, y < 8 → s y = true → f y = false → (List.range 8).all (fun z => !(s z) || R y z) = false
def optI (o : Option Nat) : Int := match o with | some c => (c : Int) | none => -1
set_option maxRecDepth 100000 in
set_option maxHeartbeats 1000000 in
theorem least_any (g off : Nat) (s : Nat → Bool) (R : Nat → Nat → Bool) (w : World) (h : ∀ a, a < 8 → w.cell? ⟨g, off + a, none⟩ = some (.int .u8 ((bits (R a) : Nat) : Int))) :
    Calls Tryz.prog 36 #[.int .u8 ((bits s : Nat) : Int), .pointer (some ⟨g, off, none⟩)] w fun e w' => e = .returned (.int .i8 (optI (leastC s R))) ∧ w = w' := by
  have HT := Lib.hid (fun r hr => tz8_any r hr w)
  go_enter Tryz.func36, Tryz.ntmps36
  go_wp2_with fail
  go_loop [5] (fun v => ∃ f : Nat → Bool, v = .int .u8 ((bits f : Nat) : Int) ∧ Hid (LRel s R f)) (fun v => (intOf v).toNat)
  case atStart => exact ⟨s, rfl, Lib.hid ⟨fun _ _ h => h, fun y _ h1 h2 => by rw [h1] at h2; cases h2⟩⟩
  case round =>
    obtain ⟨f, rfl, hf⟩ := hrel
    by_cases h0 : bits f = 0
    · have hn : leastC s R = none := leastC_none fun y hy hs => hf.out.2 y hy hs (bits_zero.1 h0 y hy)
      have t : (((bits f : Nat) : Int) != 0) = false := by simp [h0]
      have HN := Lib.hid hn
      clear hn h0
      go_wp2_with fail
      go_ret
      exact ⟨lret (by rw [HN.out]; rfl), rfl⟩
    · obtain ⟨c, hc1, hc, hfc, hlo, hclr⟩ := tz_row f h0
      have t : (((bits f : Nat) : Int) != 0) = true := by simp [h0]
      have hpos : 1 ≤ bits f := by omega
      have hlt := bits_lt f
      have hcell := h c hc
      have HTc := HT.out _ (bits_lt f)
      rw [hc1] at HTc
      replace HTc := Lib.hid HTc
      have a1 := u8_and (bits_lt (R c)) (bits_lt s)
      have a2 : (((bits (R c) &&& bits s : Nat) : Int) == ((bits s : Nat) : Int)) = (List.range 8).all (fun z => !(s z) || R c z) := by
        rw [bits_and, Bool.eq_iff_iff]
        simp only [beq_iff_eq, Int.natCast_inj, bits_eq, List.all_eq_true, List.mem_range, Bool.or_eq_true, Bool.not_eq_true']
        constructor
        · intro k y hy
          have := k y hy
          cases hs : s y with
          | false => exact .inl rfl
          | true => rw [hs] at this; exact .inr (by simpa using this)
        · intro k y hy
          rcases k y hy with k | k <;> rw [k] <;> simp
      have a3 : IntKind.u8.wrap (((bits f : Nat) : Int) - 1) = ((bits f - 1 : Nat) : Int) := by
        rw [show ((bits f : Nat) : Int) - 1 = ((bits f - 1 : Nat) : Int) by omega]
        exact wrap_u8 (by omega)
      have a4 := u8_and (m := bits f) (n := bits f - 1) hlt (by omega)
      rw [hclr] at a4
      have a5 : IntKind.i8.wrap (c : Int) = (c : Int) := by
        unfold IntKind.wrap
        simp only [IntKind.bits, IntKind.signed]
        simp
        omega
      have hin := hf.out.1 c hc hfc
      have hlow : ∀ y, y < c → s y = true → (List.range 8).all (fun z => !(s z) || R y z) = false := fun y hy hs => hf.out.2 y (by omega) hs (hlo y hy)
      have HFR := Lib.hid (leastC_rest hc hin hlow)
      have HNX : Hid ((List.range 8).all (fun z => !(s z) || R c z) = false → LRel s R fun y => f y && !(Nat.beq y c)) := Lib.hid fun hz => ⟨fun y hy k => hf.out.1 y hy (by simp at k; exact k.1), fun y hy hs k => by
        cases hfy : f y with
        | false => exact hf.out.2 y hy hs hfy
        | true =>
          simp only [hfy, Bool.true_and, Bool.not_eq_false'] at k
          rw [Nat.eq_of_beq_eq_true k]; exact hz⟩
      have HM : Hid (bits (fun y => f y && !(Nat.beq y c)) < bits f) := Lib.hid (by
        rw [← hclr]
        exact Nat.lt_of_le_of_lt Nat.and_le_right (by omega))
      clear hclr hc1 hf hin hlow hlo h0
      go_wp2_with fail
      refine (HTc.out).mono ?_; rintro e w1 ⟨rfl, rfl⟩
      cases hb : (List.range 8).all (fun z => !(s z) || R c z) with
      | true =>
        rw [hb] at a2
        have hl := Lib.hid (HFR.out hb)
        go_wp2_with fail
        go_ret
        exact ⟨lret (by rw [hl.out]; rfl), rfl⟩
      | false =>
        rw [hb] at a2
        have hl := Lib.hid (HNX.out hb)
        go_wp2_with fail
        go_round
        case rel => exact ⟨_, rfl, hl⟩
        case measure => have := HM.out; simp [intOf]; omega
end Go.Proofs.YtkbcdlabfbonoaaGreatDoor
