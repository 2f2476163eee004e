/-
  The walks of the snapshot's must, and of its writer's num and many.
-/
import Derived.Test.YtnaamiecljinnaaGreatC1
import Derived.Deep.RegionHeld3
namespace Go.Proofs.YtnaamiecljinnaaGreat
open Go.RowKit

/-- given up with an error's number -/
abbrev gave (x : Int) : Ending := .panicked [{ v := .iface 31 (.int .i64 x), recovered := false }]
theorem bt_snap : BT 74 := ⟨by kernel_rfl, by decide⟩

set_option maxRecDepth 100000 in
set_option maxHeartbeats 1000000 in
theorem must_yes (w : World) : Calls Tryz.prog 46 #[.bool true] w fun e w' => e = .returned (.tuple #[]) ∧ w = w' := by
  go_enter Tryz.func46, Tryz.ntmps46
  go_wp2_with fail
  go_end0
  exact ⟨rfl, rfl⟩
set_option maxRecDepth 100000 in
set_option maxHeartbeats 1000000 in
theorem must_no (w : World) : Calls Tryz.prog 46 #[.bool false] w fun e w' => e = gave 5 ∧ w = w' := by
  go_enter Tryz.func46, Tryz.ntmps46
  go_wp2_with fail
  exact ⟨rfl, rfl, rfl⟩

def inN (n : Int) : Bool := decide (0 ≤ n) && decide (n ≤ 2199023255552)
/-- the bytes of counts, or none -/
def numsE : List Int → Option (List UInt8)
  | [] => some []
  | n :: l => if inN n then (match numsE l with | none => none | some r => some (uintS n.toNat ++ r)) else none
/-- a writer wrote, or gave up -/
def WrOr (T : TypeId) (B b : Nat) (o : List UInt8) (r : Option (List UInt8)) (w : World) (e : Ending) (w' : World) : Prop :=
  match r with
  | some q => e = .returned (.tuple #[]) ∧ Bld T B b (o ++ q) w' ∧ Wrote B b w w'
  | none => e = gave 5 ∧ Below B w w'
theorem numsE_len : ∀ (l : List Int) (r : List UInt8), numsE l = some r → r.length ≤ 10 * l.length
  | [], r, h => by cases h; simp
  | n :: l, r, h => by
    rw [numsE] at h
    split at h
    · split at h
      · cases h
      · rename_i q hq
        cases h
        have := numsE_len l q hq
        have := uintS_len n.toNat
        simp; omega
    · cases h
/-- the first counts written, the others still to come -/
theorem numsE_drop {l : List Int} {i : Nat} (h : i < l.length) : numsE (l.drop i) = if inN (l.getD i 0) then (match numsE (l.drop (i + 1)) with | none => none | some r => some (uintS (l.getD i 0).toNat ++ r)) else none := by
  have e : l.getD i 0 = l[i] := by simp [List.getD, h]
  rw [List.drop_eq_getElem_cons h, numsE, e]
def preB (q : List UInt8) : Option (List UInt8) → Option (List UInt8)
  | none => none
  | some r => some (q ++ r)
theorem preB_nil (r : Option (List UInt8)) : preB [] r = r := by cases r <;> rfl
theorem preB_app (p q : List UInt8) (r : Option (List UInt8)) : preB (p ++ q) r = preB p (preB q r) := by
  cases r
  · rfl
  · simp [preB]

set_option maxRecDepth 100000 in
set_option maxHeartbeats 2000000 in
theorem snum_any (l : List Int) (N : Nat) (cs : Array Value) (hN : l.length = N) (hcs : (l.map (Value.int .i64)).toArray = cs) (hl : N ≤ 20) (g B b : Nat) (o : List UInt8) (ho : o.length ≤ 10000000) (w : World) (hb : Bld 74 B b o w)
    (hg : w.heap[g]? = some (.cells cs 3 (0, 0))) :
    Calls Tryz.prog 38 #[.pointer (some ⟨b, 0, none⟩), .slice (some ⟨g, 0, none⟩) N N] w (WrOr 74 B b o (numsE l) w) := by
  subst hcs
  have hne : g ≠ b := by
    rintro rfl
    rcases hb.2 with h | h <;> obtain ⟨_, v, h, _⟩ := h <;> rw [hg] at h <;> injection h with h <;> injection h with _ h <;> exact absurd h (by decide)
  have HW := Lib.hid (fun (o : List UInt8) (w : World) (h : Bld 74 B b o w) (l : List UInt8) (hlen : o.length + l.length ≤ 100000000) => h.writeS bt_snap l hlen)
  have HU := Lib.hid (fun n h w => cUint_any n h w)
  have HMy := Lib.hid must_yes
  have HMn := Lib.hid must_no
  have HG := Lib.hid hg; clear hg
  have HN := Lib.hid hN; clear hN
  go_enter Tryz.func38, Tryz.ntmps38
  go_wp2_with fail
  go_loopw [8] (fun v wr => ∃ (i : Nat) (q : List UInt8), v = .int .i64 (i : Int) ∧ i ≤ N ∧ q.length ≤ 10 * i ∧ Hid (numsE l = preB q (numsE (l.drop i))) ∧ Bld 74 B b (o ++ q) wr ∧ Wrote B b w wr) (fun v _ => N - (intOf v).toNat)
  case atStart => exact ⟨0, [], rfl, by omega, by simp, by show _ = _; rw [preB_nil, List.drop_zero], by rw [List.append_nil]; exact hb, Wrote.refl _ _ _⟩
  case round =>
    obtain ⟨i, q, rfl, hi, hq, hE, hbd, hwr⟩ := hrel
    have hgr := hwr.block HG.out hne (by decide)
    by_cases hlt : i < N
    · have t0 : decide ((i : Int) < (N : Int)) = true := by simp; omega
      have hlen : i < l.length := by rw [HN.out]; exact hlt
      have c0 : wr.cell? ⟨g, i, none⟩ = some (.int .i64 (l.getD i 0)) := by
        rw [Lib.cell_of_heap hgr]; simp [List.getD, hlen]
      have b1 : (0 : Int) ≤ (i : Int) := by omega
      have b2 : (i : Int) < (N : Int) := by omega
      have HD := Lib.hid (numsE_drop hlen)
      clear hgr hlen
      generalize l.getD i 0 = n at *
      cases hin : inN n
      · rw [hin] at HD
        have HF := Lib.hid (show (decide ((0 : Int) ≤ n) && decide (n ≤ 2199023255552)) = false from hin)
        by_cases h1 : 0 ≤ n
        · have t2 : decide ((0 : Int) ≤ n) = true := decide_eq_true h1
          have t3 : decide (n ≤ 2199023255552) = false := by have := HF.out; rw [t2] at this; simpa using this
          clear hin h1
          go_wp2_with fail
          refine (HMn.out _).mono ?_; rintro e w1 ⟨rfl, rfl⟩
          go_wp2_with fail
          exact ⟨rfl, by rw [hE.out, HD.out]; exact ⟨rfl, hwr.1⟩⟩
        · have t2 : decide ((0 : Int) ≤ n) = false := decide_eq_false h1
          clear hin h1
          go_wp2_with fail
          refine (HMn.out _).mono ?_; rintro e w1 ⟨rfl, rfl⟩
          go_wp2_with fail
          exact ⟨rfl, by rw [hE.out, HD.out]; exact ⟨rfl, hwr.1⟩⟩
      · rw [hin] at HD
        obtain ⟨h1, h2⟩ : 0 ≤ n ∧ n ≤ 2199023255552 := by simpa [inN] using hin
        obtain ⟨k, rfl⟩ := Int.eq_ofNat_of_zero_le h1
        clear hin
        have HUU := Lib.hid (HU.out k (by omega))
        have hkl := uintS_len k
        have wk : IntKind.u64.wrap (k : Int) = (k : Int) := by rw [IntKind.wrap_u64]; omega
        have HL2 := Lib.hid (show (o ++ q).length + (uintS k).length ≤ 100000000 by simp; omega)
        go_wp2_with fail
        refine (HMy.out _).mono ?_; rintro e w1 ⟨rfl, rfl⟩
        go_wp2_with fail
        go_region_held3 (fun _ => True) (trivial) (first | (go_at_call 67; (with_reducible refine (HUU.out _).mono ?_); rintro e w2 ⟨rfl, hb2⟩) | (go_at_call 37; refine (HW.out _ _ (hbd.drew.below hb2) (uintS k) HL2.out).mono ?_; rintro e w3 ⟨rfl, hb3, hw3⟩))
        go_wp2_with fail
        go_roundw
        case rel => exact ⟨i + 1, q ++ uintS k, by go_num, by omega, by simp; omega, by show _ = _; rw [hE.out, HD.out, preB_app]; simp only [if_true]; rfl, by rw [← List.append_assoc]; exact hb3, (hwr.drew.below hbd.1 hb2).trans hw3⟩
        case measure => simp [intOf]; omega
    · have t0 : decide ((i : Int) < (N : Int)) = false := by simp; omega
      go_wp2_with fail
      go_end0
      rw [hE.out, List.drop_eq_nil_of_le (by rw [HN.out]; omega)]
      exact ⟨rfl, by rw [List.append_nil]; exact hbd, hwr⟩
end Go.Proofs.YtnaamiecljinnaaGreat
