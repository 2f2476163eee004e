/-
  The lexer's frame: what a call leaves as it was but for some blocks; the walks of the lexer's predicates and of its 'while'.
-/
import Derived.Test.YtkcbkfflabkcgaaDoorB1
import Derived.Test.YtkcbkfflabkcgaaDoorKp
import Derived.OneCell
import Derived.Deep.QuietTactic
import Derived.BigQuiet
namespace Go.Proofs.YtkcbkfflabkcgaaDoor
open Go.RowKit

/-- all blocks that were there, but for those of l, are as they were -/
structure Fr (l : List Nat) (w w' : World) : Prop where
  os : w'.os = w.os
  tape : w'.tape = w.tape
  output : w'.output = w.output
  size : w.heap.size ≤ w'.heap.size
  block : ∀ k, k < w.heap.size → k ∉ l → w'.heap[k]? = w.heap[k]?
theorem Fr.refl (l : List Nat) (w : World) : Fr l w w := ⟨rfl, rfl, rfl, Nat.le_refl _, fun _ _ _ => rfl⟩
theorem Fr.trans {l : List Nat} {a b c : World} (h : Fr l a b) (k : Fr l b c) : Fr l a c :=
  ⟨k.os.trans h.os, k.tape.trans h.tape, k.output.trans h.output, Nat.le_trans h.size k.size, fun i hi hn => (k.block i (Nat.lt_of_lt_of_le hi h.size) hn).trans (h.block i hi hn)⟩
theorem Fr.mono {l m : List Nat} {w w' : World} (h : Fr l w w') (hlm : ∀ x ∈ l, x ∈ m) : Fr m w w' := ⟨h.os, h.tape, h.output, h.size, fun k hk hn => h.block k hk (fun hx => hn (hlm k hx))⟩
theorem Fr.of_below {l : List Nat} {w w' : World} (h : Below w.heap.size w w') : Fr l w w' := ⟨h.os, h.tape, h.output, h.size, fun k hk _ => h.block k hk⟩
theorem Fr.below {l : List Nat} {B : Nat} {w w' : World} (h : Fr l w w') (hB : B ≤ w.heap.size) (hl : ∀ x ∈ l, B ≤ x) : Below B w w' :=
  ⟨h.os, h.tape, h.output, h.size, fun k hk => h.block k (Nat.lt_of_lt_of_le hk hB) (fun hx => by have := hl k hx; omega)⟩
theorem Fr.drewN {l : List Nat} {a w : World} (h : Fr l a w) (n : Nat) : Fr l a (w.drewN n) := ⟨h.os, h.tape, h.output, h.size, h.block⟩
theorem Fr.setCell {l : List Nat} {a w : World} (h : Fr l a w) (p : Addr) (hp : p.block ∈ l) (v : Value) : Fr l a (w.setCell p v) := by
  exact h.trans ⟨rfl, rfl, rfl, by simp [World.setCell], fun k _ hn => Below.heap_setCell _ _ _ _ (fun e => hn (e ▸ hp))⟩
theorem heap_setN {w : World} {b : Nat} {cs : Array Value} {t : TypeId} (h : w.heap[b]? = some (.cells cs t (0, 0))) (i : Nat) (x : Value) : (w.setCell ⟨b, i, none⟩ x).heap[b]? = some (.cells (cs.setIfInBounds i x) t (0, 0)) := by
  have hlt := lt_of_block h
  have h' : w.heap[b] = .cells cs t (0, 0) := by simpa [Array.getElem?_eq_getElem hlt] using h
  show (w.heap.modify b _)[b]? = _
  rw [Array.getElem?_eq_getElem (by simpa using hlt), Array.getElem_modify_self, h']
  rfl

/-- the lexer at a place of its text -/
def LexAt (b : Nat) (s : ByteArray) (a : Nat) (w : World) : Prop := w.heap[b]? = some (.cells #[.string s, .int .i64 a] 44 (0, 0))
theorem LexAt.c0 {b : Nat} {s : ByteArray} {a : Nat} {w : World} (h : LexAt b s a w) : w.cell? ⟨b, 0, none⟩ = some (.string s) := by rw [Lib.cell_of_heap h]; rfl
theorem LexAt.c1 {b : Nat} {s : ByteArray} {a : Nat} {w : World} (h : LexAt b s a w) : w.cell? ⟨b, 1, none⟩ = some (.int .i64 a) := by rw [Lib.cell_of_heap h]; rfl
theorem LexAt.f1 {b : Nat} {s : ByteArray} {a : Nat} {w : World} (h : LexAt b s a w) : w.frozen? ⟨b, 1, none⟩ = false := Lib.frozen_of_heap h 1
theorem LexAt.lt {b : Nat} {s : ByteArray} {a : Nat} {w : World} (h : LexAt b s a w) : b < w.heap.size := by
  exact lt_of_block h
theorem LexAt.kept {b : Nat} {s : ByteArray} {a : Nat} {l : List Nat} {w w' : World} (h : LexAt b s a w) (hf : Fr l w w') (hb : b ∉ l) : LexAt b s a w' := (hf.block b h.lt hb).trans h
theorem LexAt.drewN {b : Nat} {s : ByteArray} {a : Nat} {w : World} (h : LexAt b s a w) (n : Nat) : LexAt b s a (w.drewN n) := h
theorem LexAt.put {b : Nat} {s : ByteArray} {a : Nat} {w : World} (h : LexAt b s a w) (c : Nat) : LexAt b s c (w.setCell ⟨b, 1, none⟩ (.int .i64 c)) := heap_setN h 1 _

theorem u8_beq (c : UInt8) (n : UInt8) : (c == n) = ((c.toNat : Int) == (n.toNat : Int)) := by
  rw [Bool.eq_iff_iff, beq_iff_eq, beq_iff_eq, ← UInt8.toNat_inj]
  omega

set_option maxRecDepth 100000 in
set_option maxHeartbeats 400000 in
theorem isBlank_any (c : UInt8) (w : World) : Calls Tryd.prog 22 #[.int .u8 c.toNat] w fun e w' => e = .returned (.bool (isBl c)) ∧ w = w' := by
  have HB := Lib.hid (show isBl c = (((c.toNat : Int) == 32 || (c.toNat : Int) == 9) || (c.toNat : Int) == 10 || (c.toNat : Int) == 13) from by unfold isBl; rw [u8_beq, u8_beq, u8_beq, u8_beq]; simp [Bool.or_assoc])
  cases h1 : ((c.toNat : Int) == 32) <;> cases h2 : ((c.toNat : Int) == 9) <;> cases h3 : ((c.toNat : Int) == 10) <;> cases h4 : ((c.toNat : Int) == 13)
  all_goals
    rw [h1, h2, h3, h4] at HB
    go_enter Tryd.func22, Tryd.ntmps22
    go_wp2
    go_ret
    exact ⟨ret_val (by rw [HB.out]; rfl), rfl⟩

set_option maxRecDepth 100000 in
set_option maxHeartbeats 400000 in
theorem isDigit_any (c : UInt8) (w : World) : Calls Tryd.prog 23 #[.int .u8 c.toNat] w fun e w' => e = .returned (.bool (isDig c)) ∧ w = w' := by
  have HB := Lib.hid (show isDig c = (decide ((48 : Int) ≤ (c.toNat : Int)) && decide ((c.toNat : Int) ≤ 57)) from by
    show decide (48 ≤ c.toNat ∧ c.toNat ≤ 57) = _
    rw [Bool.eq_iff_iff]; simp; omega)
  cases h1 : decide ((48 : Int) ≤ (c.toNat : Int)) <;> cases h2 : decide ((c.toNat : Int) ≤ 57)
  all_goals
    rw [h1, h2] at HB
    go_enter Tryd.func23, Tryd.ntmps23
    go_wp2
    go_ret
    exact ⟨ret_val (by rw [HB.out]; rfl), rfl⟩

set_option maxRecDepth 100000 in
set_option maxHeartbeats 400000 in
theorem isName_any (c : UInt8) (w : World) : Calls Tryd.prog 25 #[.int .u8 c.toNat] w fun e w' => e = .returned (.bool (isNm c)) ∧ w = w' := by
  have HB := Lib.hid (show isNm c = ((decide ((97 : Int) ≤ (c.toNat : Int)) && decide ((c.toNat : Int) ≤ 122)) || isDig c || (c.toNat : Int) == 95) from by
    unfold isNm isLet
    rw [u8_beq c 95]
    congr 2
    rw [Bool.eq_iff_iff]; simp; omega)
  have HD := Lib.hid (isDigit_any c)
  cases hd : isDig c <;> cases h1 : decide ((97 : Int) ≤ (c.toNat : Int)) <;> cases h2 : decide ((c.toNat : Int) ≤ 122) <;> cases h3 : ((c.toNat : Int) == 95)
  all_goals
    rw [hd] at HD
    rw [h1, h2, h3, hd] at HB
    go_enter Tryd.func25, Tryd.ntmps25
    go_wp2_with (go_at_call 23; refine (HD.out _).mono ?_; rintro e w' ⟨rfl, rfl⟩)
    go_ret
    exact ⟨ret_val (by rw [HB.out]; rfl), rfl⟩
end Go.Proofs.YtkcbkfflabkcgaaDoor
