/-
  The walks of the snapshot's reader: num, many, inst.
-/
import Derived.Test.YtnaamiecljinnaaGreatC4
namespace Go.Proofs.YtnaamiecljinnaaGreat
open Go.RowKit

/-- the snapshot's reader: its text, its place -/
def SrB (b : Nat) (s : ByteArray) (k : Nat) (w : World) : Prop := w.heap[b]? = some (.cells #[.string s, .int .i64 k] 86 (0, 0))
theorem SrB.c0 {b : Nat} {s : ByteArray} {k : Nat} {w : World} (h : SrB b s k w) : w.cell? ⟨b, 0, none⟩ = some (.string s) := by rw [Lib.cell_of_heap h]; rfl
theorem SrB.c1 {b : Nat} {s : ByteArray} {k : Nat} {w : World} (h : SrB b s k w) : w.cell? ⟨b, 1, none⟩ = some (.int .i64 k) := by rw [Lib.cell_of_heap h]; rfl
theorem SrB.fz {b : Nat} {s : ByteArray} {k : Nat} {w : World} (h : SrB b s k w) (i : Nat) : w.frozen? ⟨b, i, none⟩ = false := Lib.frozen_of_heap h i
theorem SrB.put1 {b : Nat} {s : ByteArray} {k : Nat} {w : World} (h : SrB b s k w) (c : Nat) : SrB b s c (w.setCell ⟨b, 1, none⟩ (.int .i64 c)) := heap_setN h 1 _
theorem SrB.drewN {b : Nat} {s : ByteArray} {k : Nat} {w : World} (h : SrB b s k w) (n : Nat) : SrB b s k (w.drewN n) := h
theorem SrB.drew {b : Nat} {s : ByteArray} {k : Nat} {w : World} (h : SrB b s k w) : SrB b s k w.drew := h
theorem SrB.lt {b : Nat} {s : ByteArray} {k : Nat} {w : World} (h : SrB b s k w) : b < w.heap.size := lt_of_block h
theorem SrB.below {b : Nat} {s : ByteArray} {k : Nat} {w w' : World} (h : SrB b s k w) (hb : Below w.heap.size w w') : SrB b s k w' := (hb.block b h.lt).trans h
theorem SrB.kept {b : Nat} {s : ByteArray} {k : Nat} {l : List Nat} {w w' : World} (h : SrB b s k w) (hf : Fr l w w') (hb : b ∉ l) : SrB b s k w' := hf.at h hb

/-- a count read -/
def numR (l : List UInt8) : Option (Nat × List UInt8) :=
  match rdU l with
  | none => none
  | some r => if r.1 ≤ 2199023255552 then some r else none
def manyR (l : List UInt8) : Option (Nat × List UInt8) :=
  match numR l with
  | none => none
  | some r => if r.1 ≤ 500 then some r else none
/-- what a call of the snapshot's reader leaves: a value and its place, or it gave up -/
def SrPost (b : Nat) (s : ByteArray) (w : World) (r : Option (Value × List UInt8)) (e : Ending) (w' : World) : Prop :=
  match r with
  | some v => e = .returned v.1 ∧ SrB b s (s.size - v.2.length) w' ∧ Fr [b] w w'
  | none => e = gave 5 ∧ Fr [b] w w'

set_option maxRecDepth 100000 in
set_option maxHeartbeats 4000000 in
theorem snumR_any (s : ByteArray) (hs : s.size ≤ 1000000) (k : Nat) (hk : k ≤ s.size) (b : Nat) (w : World) (hb : SrB b s k w) :
    Calls Tryz.prog 48 #[.pointer (some ⟨b, 0, none⟩)] w (SrPost b s w (onN (fun n => .int .i64 (n : Int)) (numR (s.data.toList.drop k)))) := by
  have HR := Lib.hid (fun w => ReadUint_any s hs k hk w)
  have HMy := Lib.hid must_yes
  have HMn := Lib.hid must_no
  have c0 := hb.c0; have c1 := hb.c1
  have HBb := Lib.hid (fun w' (h : Below w.heap.size w w') => hb.below h)
  unfold numR
  generalize rdU (s.data.toList.drop k) = r at *
  have HRR := HR.out
  cases r with
  | none =>
    have HRR := Lib.hid HRR
    go_enter Tryz.func48, Tryz.ntmps48
    go_wp2_with fail
    go_region_held3 (fun w' => w'.cell? ⟨b, 0, none⟩ = some (.string s) ∧ w'.cell? ⟨b, 1, none⟩ = some (.int .i64 (k : Int))) (first | exact ⟨c0, c1⟩ | go_keep | exact ⟨(HBb.out _ (undrew hb1)).c0, (HBb.out _ (undrew hb1)).c1⟩) ((go_at_call 79; (with_reducible refine (HRR.out _).mono ?_); rintro e w1 ⟨⟨x, hx, rfl⟩, hb1⟩))
    have tx : (x == 0) = false := beq_eq_false_iff_ne.2 hx
    clear hx
    go_wp2_with fail
    refine (HMn.out _).mono ?_; rintro e w2 ⟨rfl, rfl⟩
    go_wp2_with fail
    exact ⟨rfl, rfl, Fr.of_below (undrew hb1)⟩
  | some r =>
    obtain ⟨n, l⟩ := r
    have hle : s.size - l.length ≤ s.size := Nat.sub_le _ _
    generalize hk2 : s.size - l.length = k2 at *
    have HK2 := Lib.hid hk2; clear hk2
    have HRR := Lib.hid (fun w => (HRR w).mono fun e w' (h : RuPost s (some (n, l)) w e w') => (show e = .returned (.tuple #[.int .u64 (n : Int), .int .i64 (k2 : Int), .int .i64 0]) ∧ Below w.heap.size w w' from by rw [← HK2.out]; exact h))
    by_cases hn : n ≤ 2199023255552
    · have t1 : decide ((n : Int) ≤ 2199023255552) = true := by simp; omega
      rw [show (match (some (n, l) : Option (Nat × List UInt8)) with | none => none | some r => if r.1 ≤ 2199023255552 then some r else none) = some (n, l) from if_pos hn]
      go_enter Tryz.func48, Tryz.ntmps48
      go_wp2_with fail
      go_region_held3 (fun w' => w'.cell? ⟨b, 0, none⟩ = some (.string s) ∧ w'.cell? ⟨b, 1, none⟩ = some (.int .i64 (k : Int))) (first | exact ⟨c0, c1⟩ | go_keep | exact ⟨(HBb.out _ (undrew hb1)).c0, (HBb.out _ (undrew hb1)).c1⟩) ((go_at_call 79; (with_reducible refine (HRR.out _).mono ?_); rintro e w1 ⟨rfl, hb1⟩))
      go_wp2_with fail
      refine (HMy.out _).mono ?_; rintro e w2 ⟨rfl, rfl⟩
      have hb2 := HBb.out _ (undrew hb1)
      have d1 := hb2.c1; have f1 := hb2.fz 1
      go_wp2_with fail
      go_ret
      exact ⟨rfl, by show SrB b s (s.size - l.length) _; rw [HK2.out]; exact hb2.put1 k2, (Fr.of_below (undrew hb1)).setCell (l := [b]) _ (by simp) _⟩
    · have t1 : decide ((n : Int) ≤ 2199023255552) = false := by simp; omega
      rw [show (match (some (n, l) : Option (Nat × List UInt8)) with | none => none | some r => if r.1 ≤ 2199023255552 then some r else none) = none from if_neg hn]
      go_enter Tryz.func48, Tryz.ntmps48
      go_wp2_with fail
      go_region_held3 (fun w' => w'.cell? ⟨b, 0, none⟩ = some (.string s) ∧ w'.cell? ⟨b, 1, none⟩ = some (.int .i64 (k : Int))) (first | exact ⟨c0, c1⟩ | go_keep | exact ⟨(HBb.out _ (undrew hb1)).c0, (HBb.out _ (undrew hb1)).c1⟩) ((go_at_call 79; (with_reducible refine (HRR.out _).mono ?_); rintro e w1 ⟨rfl, hb1⟩))
      go_wp2_with fail
      refine (HMn.out _).mono ?_; rintro e w2 ⟨rfl, rfl⟩
      go_wp2_with fail
      exact ⟨rfl, rfl, Fr.of_below (undrew hb1)⟩
end Go.Proofs.YtnaamiecljinnaaGreat
