/-
  The walks of the snapshot's reader: many, inst.
-/
import Derived.Test.YtnaamiecljinnaaGreatS5
namespace Go.Proofs.YtnaamiecljinnaaGreat
open Go.RowKit

theorem numR_bd {l : List UInt8} {r : Nat × List UInt8} (h : numR l = some r) : r.1 ≤ 2199023255552 ∧ r.2.length < l.length := by
  unfold numR at h
  split at h
  · cases h
  · rename_i q hq
    split at h
    · cases h
      exact ⟨by assumption, rdUF_len 10 l _ _ hq⟩
    · cases h
theorem drop_len (s : ByteArray) {l : List UInt8} (h : l.length ≤ s.size) (hl : ∃ k, l = s.data.toList.drop k) : s.data.toList.drop (s.size - l.length) = l := by
  obtain ⟨j, rfl⟩ := hl
  have e : s.data.toList.length = s.size := by simp
  rw [List.length_drop, e]
  rcases Nat.le_total j s.size with g | g
  · rw [show s.size - (s.size - j) = j by omega]
  · rw [show s.size - (s.size - j) = s.size by omega, List.drop_eq_nil_of_le (by omega), List.drop_eq_nil_of_le (by omega)]
/-- what is left behind a number is an end of the text -/
theorem rdUF_drop : ∀ (f : Nat) (l : List UInt8) (r : Nat × List UInt8), rdUF f l = some r → ∃ j, r.2 = l.drop j
  | 0, _, _, h => by rw [rdUF] at h; cases h
  | f + 1, [], _, h => by rw [rdUF] at h; cases h
  | f + 1, b :: l, r, h => by
    rw [rdUF] at h
    split at h
    · cases h
    · split at h
      · cases h; exact ⟨1, rfl⟩
      · split at h
        · cases h
        · rename_i q hq
          cases h
          obtain ⟨j, hj⟩ := rdUF_drop f l q hq
          exact ⟨j + 1, by rw [List.drop_succ_cons, ← hj]⟩
/-- an end of a text -/
def EndOf (s : ByteArray) (l : List UInt8) : Prop := ∃ k, k ≤ s.size ∧ l = s.data.toList.drop k
theorem EndOf.len {s : ByteArray} {l : List UInt8} (h : EndOf s l) : l.length ≤ s.size := by
  obtain ⟨k, hk, rfl⟩ := h
  have e : s.data.toList.length = s.size := by simp
  rw [List.length_drop, e]; omega
theorem EndOf.back {s : ByteArray} {l : List UInt8} (h : EndOf s l) : s.data.toList.drop (s.size - l.length) = l := drop_len s h.len ⟨h.choose, h.choose_spec.2⟩
theorem EndOf.drop {s : ByteArray} {l : List UInt8} (h : EndOf s l) (j : Nat) : EndOf s (l.drop j) := by
  obtain ⟨k, hk, rfl⟩ := h
  have e : s.data.toList.length = s.size := by simp
  rw [List.drop_drop]
  rcases Nat.le_total (k + j) s.size with g | g
  · exact ⟨k + j, g, rfl⟩
  · exact ⟨s.size, Nat.le_refl _, by rw [List.drop_eq_nil_of_le (by omega), List.drop_eq_nil_of_le (by omega)]⟩
theorem EndOf.num {s : ByteArray} {l : List UInt8} (h : EndOf s l) {r : Nat × List UInt8} (hr : numR l = some r) : EndOf s r.2 := by
  unfold numR at hr
  split at hr
  · cases hr
  · rename_i q hq
    split at hr
    · cases hr
      obtain ⟨j, hj⟩ := rdUF_drop 10 l r hq
      rw [hj]; exact h.drop j
    · cases hr
theorem EndOf.start (s : ByteArray) (k : Nat) (hk : k ≤ s.size) : EndOf s (s.data.toList.drop k) := ⟨k, hk, rfl⟩

/-- the snapshot's reader, by what is left of its text -/
def SrL (b : Nat) (s : ByteArray) (l : List UInt8) (w : World) : Prop := EndOf s l ∧ SrB b s (s.size - l.length) w
theorem SrL.drew {b : Nat} {s : ByteArray} {l : List UInt8} {w : World} (h : SrL b s l w) : SrL b s l w.drew := h
theorem SrL.lt {b : Nat} {s : ByteArray} {l : List UInt8} {w : World} (h : SrL b s l w) : b < w.heap.size := h.2.lt
theorem SrL.kept {b : Nat} {s : ByteArray} {l : List UInt8} {m : List Nat} {w w' : World} (h : SrL b s l w) (hf : Fr m w w') (hb : b ∉ m) : SrL b s l w' := ⟨h.1, h.2.kept hf hb⟩
theorem SrL.below {b : Nat} {s : ByteArray} {l : List UInt8} {w w' : World} (h : SrL b s l w) (hb : Below w.heap.size w w') : SrL b s l w' := ⟨h.1, h.2.below hb⟩
/-- what a call of it leaves, told by what is left of the text -/
def SlPost (b : Nat) (s : ByteArray) (w : World) (r : Option (Value × List UInt8)) (e : Ending) (w' : World) : Prop :=
  match r with
  | some v => e = .returned v.1 ∧ SrL b s v.2 w' ∧ Fr [b] w w'
  | none => e = gave 5 ∧ Fr [b] w w'
theorem snumL (s : ByteArray) (hs : s.size ≤ 1000000) (b : Nat) (l : List UInt8) (w : World) (hb : SrL b s l w) :
    Calls Tryz.prog 48 #[.pointer (some ⟨b, 0, none⟩)] w (SlPost b s w (onN (fun n => .int .i64 (n : Int)) (numR l))) := by
  have h := snumR_any s hs (s.size - l.length) (Nat.sub_le _ _) b w hb.2
  rw [hb.1.back] at h
  have he := fun r => hb.1.num (r := r)
  generalize numR l = r at *
  cases r with
  | none => exact h
  | some r => exact h.mono fun e w' ⟨h1, h2, h3⟩ => ⟨h1, ⟨he _ rfl, h2⟩, h3⟩

set_option maxRecDepth 100000 in
set_option maxHeartbeats 4000000 in
theorem smanyL (s : ByteArray) (hs : s.size ≤ 1000000) (b : Nat) (l : List UInt8) (w : World) (hb : SrL b s l w) :
    Calls Tryz.prog 49 #[.pointer (some ⟨b, 0, none⟩)] w (SlPost b s w (onN (fun n => .int .i64 (n : Int)) (manyR l))) := by
  have HN := snumL s hs b l w hb
  have HMy := Lib.hid must_yes
  have HMn := Lib.hid must_no
  cases hr : numR l with
  | none =>
    rw [hr] at HN
    rw [show manyR l = none by unfold manyR; rw [hr]]
    clear hr
    have HN := Lib.hid HN
    go_enter Tryz.func49, Tryz.ntmps49
    go_wp2_with fail
    refine (HN.out).mono ?_; rintro e w1 ⟨rfl, hf1⟩
    go_wp2_with fail
    exact ⟨rfl, rfl, hf1⟩
  | some r =>
    obtain ⟨n, l1⟩ := r
    rw [hr] at HN
    have HN := Lib.hid HN
    by_cases hn : n ≤ 500
    · rw [show manyR l = some (n, l1) by unfold manyR; rw [hr]; exact if_pos hn]
      clear hr
      have t1 : decide ((n : Int) ≤ 500) = true := by simp; omega
      go_enter Tryz.func49, Tryz.ntmps49
      go_wp2_with fail
      refine (HN.out).mono ?_; rintro e w1 ⟨rfl, h1, hf1⟩
      dsimp only
      go_wp2_with fail
      refine (HMy.out _).mono ?_; rintro e w2 ⟨rfl, rfl⟩
      go_wp2_with fail
      go_ret
      exact ⟨rfl, h1, hf1⟩
    · rw [show manyR l = none by unfold manyR; rw [hr]; exact if_neg hn]
      clear hr
      have t1 : decide ((n : Int) ≤ 500) = false := by simp; omega
      go_enter Tryz.func49, Tryz.ntmps49
      go_wp2_with fail
      refine (HN.out).mono ?_; rintro e w1 ⟨rfl, h1, hf1⟩
      dsimp only
      go_wp2_with fail
      refine (HMn.out _).mono ?_; rintro e w2 ⟨rfl, rfl⟩
      go_wp2_with fail
      exact ⟨rfl, rfl, hf1⟩

/-- an instance read -/
def instR (l : List UInt8) : Option ((Nat × Nat) × List UInt8) :=
  match numR l with
  | none => none
  | some r => match numR r.2 with | none => none | some q => some ((r.1, q.1), q.2)
def onI : Option ((Nat × Nat) × List UInt8) → Option (Value × List UInt8)
  | none => none
  | some r => some (.agg #[.int .i64 (r.1.1 : Int), .int .i64 (r.1.2 : Int)], r.2)

set_option maxRecDepth 100000 in
set_option maxHeartbeats 4000000 in
theorem sinstL (s : ByteArray) (hs : s.size ≤ 1000000) (b : Nat) (l : List UInt8) (w : World) (hb : SrL b s l w) :
    Calls Tryz.prog 50 #[.pointer (some ⟨b, 0, none⟩)] w (SlPost b s w (onI (instR l)) ) := by
  have HS := Lib.hid (fun l w hb => snumL s hs b l w hb)
  have hbl := hb.lt
  have hb0 := hb.below ((Below.refl _ _).alloc (Nat.le_refl _) (.cells #[.int .i64 0, .int .i64 0] 50))
  have hf0 := (Fr.refl [b] w).alloc (.cells #[.int .i64 0, .int .i64 0] 50)
  have hg0 : (w.alloc (.cells #[.int .i64 0, .int .i64 0] 50)).heap[w.heap.size]? = some (.cells #[.int .i64 0, .int .i64 0] 50 (0, 0)) := heap_alloc_new w _
  have HN := HS.out l _ hb0
  cases hr : numR l with
  | none =>
    rw [hr] at HN
    rw [show instR l = none by unfold instR; rw [hr]]
    clear hr
    have HN := Lib.hid HN
    go_enter Tryz.func50, Tryz.ntmps50
    go_wp2_with fail
    refine (HN.out).mono ?_; rintro e w1 ⟨rfl, hf1⟩
    go_wp2_with fail
    exact ⟨rfl, rfl, hf0.trans hf1⟩
  | some r =>
    obtain ⟨n, l1⟩ := r
    rw [hr] at HN
    have HN := Lib.hid HN
    have HM := Lib.hid (fun w hb => HS.out l1 w hb)
    cases hq : numR l1 with
    | none =>
      rw [hq] at HM
      rw [show instR l = none by unfold instR; rw [hr]; dsimp only; rw [hq]]
      clear hr hq
      go_enter Tryz.func50, Tryz.ntmps50
      go_wp2_with fail
      refine (HN.out).mono ?_; rintro e w1 ⟨rfl, h1, hf1⟩
      dsimp only
      go_wp2_with fail
      refine (HM.out _ h1).mono ?_; rintro e w2 ⟨rfl, hf2⟩
      go_wp2_with fail
      exact ⟨rfl, rfl, (hf0.trans hf1).trans hf2⟩
    | some q =>
      obtain ⟨m, l2⟩ := q
      rw [hq] at HM
      rw [show instR l = some ((n, m), l2) by unfold instR; rw [hr]; dsimp only; rw [hq]]
      clear hr hq
      have HG := Lib.hid hg0; clear hg0
      go_enter Tryz.func50, Tryz.ntmps50
      go_wp2_with fail
      refine (HN.out).mono ?_; rintro e w1 ⟨rfl, h1, hf1⟩
      dsimp only
      go_wp2_with fail
      refine (HM.out _ h1).mono ?_; rintro e w2 ⟨rfl, h2, hf2⟩
      have hg2 := (hf1.trans hf2).at HG.out (by simp; omega)
      have c0 : w2.cell? ⟨w.heap.size, 0, none⟩ = some (.int .i64 0) := by rw [Lib.cell_of_heap hg2]; rfl
      have c1 : w2.cell? ⟨w.heap.size, 1, none⟩ = some (.int .i64 0) := by rw [Lib.cell_of_heap hg2]; rfl
      have f0 : w2.frozen? ⟨w.heap.size, 0, none⟩ = false := Lib.frozen_of_heap hg2 0
      have f1 : w2.frozen? ⟨w.heap.size, 1, none⟩ = false := Lib.frozen_of_heap hg2 1
      go_wp2_with fail
      have hg3 : ((w2.setCell ⟨w.heap.size, 0, none⟩ (.int .i64 (n : Int))).setCell ⟨w.heap.size, 1, none⟩ (.int .i64 (m : Int))).heap[w.heap.size]? = some (.cells #[.int .i64 (n : Int), .int .i64 (m : Int)] 50 (0, 0)) := heap_setN (heap_setN hg2 0 _) 1 _
      have q0 : ((w2.setCell ⟨w.heap.size, 0, none⟩ (.int .i64 (n : Int))).setCell ⟨w.heap.size, 1, none⟩ (.int .i64 (m : Int))).cell? ⟨w.heap.size, 0, none⟩ = some (.int .i64 (n : Int)) := by rw [Lib.cell_of_heap hg3]; rfl
      have q1 : ((w2.setCell ⟨w.heap.size, 0, none⟩ (.int .i64 (n : Int))).setCell ⟨w.heap.size, 1, none⟩ (.int .i64 (m : Int))).cell? ⟨w.heap.size, 1, none⟩ = some (.int .i64 (m : Int)) := by rw [Lib.cell_of_heap hg3]; rfl
      have hf3 := ((Fr.refl [w.heap.size] w2).setCell ⟨w.heap.size, 0, none⟩ (by simp) (.int .i64 (n : Int))).setCell ⟨w.heap.size, 1, none⟩ (by simp) (.int .i64 (m : Int))
      have hff := (((hf0.trans hf1).trans hf2).mono (m := [b, w.heap.size]) (by simp)).trans (hf3.mono (by simp))
      exact bodyPost_ret (v := .agg #[.int .i64 (n : Int), .int .i64 (m : Int)]) (by simp [results, Tryz.results50, go_sem, q0, q1]) rfl
        ⟨rfl, h2.kept hf3 (by simp; omega), ⟨hff.os, hff.tape, hff.output, hff.size, fun i hi hn => hff.block i hi (by simp at hn ⊢; omega)⟩⟩
end Go.Proofs.YtnaamiecljinnaaGreat
