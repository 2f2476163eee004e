/-
  The walks of the codec's reads (a reader run at a place, what it gives up with caught), and of ReadUint.
-/
import Derived.Test.YtnaamiecljinnaaGreatC3
import Derived.Shelf.Abstract
namespace Go.Proofs.YtnaamiecljinnaaGreat
open Go.RowKit

set_option maxRecDepth 100000 in
theorem reads1_up (p q : Addr) (x y n : Int) (w : World) (hpq : p ≠ q) (hc : w.cell? p = some (.int .i64 n)) (hz : w.frozen? p = false) (hd : w.cell? q = some (.int .i64 y)) (hy : w.frozen? q = false) :
    CallsD Tryz.prog 142 #[.pointer (some p), .pointer (some q)] (.panicking [{ v := .iface 31 (.int .i64 x), recovered := false }]) w fun e u' w' =>
      e = .returned (.tuple #[]) ∧ u' = .panicking [{ v := .iface 31 (.int .i64 x), recovered := true }] ∧ w' = (w.setCell p (.int .i64 0)).setCell q (.int .i64 x) := by
  have hta := ta_errno x
  have hd2 : (w.setCell p (.int .i64 0)).cell? q = some (.int .i64 y) := by rw [World.cell?_setCell_other _ _ _ _ hpq]; exact hd
  have hy2 : (w.setCell p (.int .i64 0)).frozen? q = false := by rw [World.frozen?_setCell]; exact hy
  refine callsD_of_wpS Tryz.func142 rfl fun c₀ cs hu => ?_
  apply wpS_seq
  apply wpS_region
  simp [wpOpsS, go_sem, recoverD, hu, hta, Tryz.ntmps142, Exit.thenS]
  apply wpS_seq
  apply wpS_region
  simp [wpOpsS, go_sem, Exit.thenS]
  refine wpS_cond (t := true) (by simp [Act.eval, Array.replicate]) ?_
  simp only [if_true]
  apply wpS_region
  simp [wpOpsS, go_sem, hc, hz, hd2, hy2, bodyPostS, results, Tryz.results142]
set_option maxRecDepth 100000 in
theorem reads1_idle (p q : Addr) (w : World) :
    CallsD Tryz.prog 142 #[.pointer (some p), .pointer (some q)] .returning w fun e u' w' => e = .returned (.tuple #[]) ∧ u' = .returning ∧ w' = w := by
  have hta := ta_nil
  refine callsD_of_wpS Tryz.func142 rfl fun c₀ cs hu => ?_
  apply wpS_seq
  apply wpS_region
  simp [wpOpsS, go_sem, recoverD, hu, hta, Tryz.ntmps142, Exit.thenS]
  apply wpS_seq
  apply wpS_region
  simp [wpOpsS, go_sem, Exit.thenS]
  refine wpS_cond (t := false) (by simp [Act.eval, Array.replicate]) ?_
  simp only [Bool.false_eq_true, if_false]
  refine wpS_of_wp (wp_skip ?_)
  cases c₀
  simp_all [bodyPostS, results, Tryz.results142]

/-- what a closure that reads leaves: a fact P of the world behind it, and what is left of the text; or it gave up -/
def ClPost (b g : Nat) (s : ByteArray) (P : World → Prop) (r : Option (List UInt8)) (w : World) (e : Ending) (w' : World) : Prop :=
  match r with
  | some l => e = .returned (.tuple #[]) ∧ (∃ q, RdB b s (s.size - l.length) q w') ∧ Fr [b, g] w w' ∧ P w'
  | none => (∃ x, x ≠ 0 ∧ e = gave x) ∧ Fr [b] w w'
/-- what reads leaves -/
def ReadsPost (g : Nat) (s : ByteArray) (P : World → Prop) (r : Option (List UInt8)) (w : World) (e : Ending) (w' : World) : Prop :=
  match r with
  | some l => e = .returned (.tuple #[.int .i64 (s.size - l.length : Nat), .int .i64 0]) ∧ Fr [g] w w' ∧ P w'
  | none => (∃ x : Int, x ≠ 0 ∧ e = .returned (.tuple #[.int .i64 0, .int .i64 x])) ∧ Fr [] w w'

set_option maxRecDepth 100000 in
set_option maxHeartbeats 4000000 in
theorem reads_any (s : ByteArray) (k : Nat) (hk : k ≤ s.size) (fn g : Nat) (hen : ∀ args w, (callFunc fn args).run Tryz.prog w = .ok (.enter fn args) w) (r : Option (List UInt8)) (P : World → Prop) (w : World) (hg : g < w.heap.size)
    (hP : ∀ w1 w2 : World, P w1 → Fr [w.heap.size, w.heap.size + 1] w1 w2 → P w2)
    (hcl : ∀ W : World, RdB (w.heap.size + 1 + 1) s k 0 W → Fr [] w W → W.heap.size = w.heap.size + 3 →
      Calls Tryz.prog fn #[.pointer (some ⟨w.heap.size + 1 + 1, 0, none⟩), .pointer (some ⟨g, 0, none⟩)] W (ClPost (w.heap.size + 1 + 1) g s P r W)) :
    Calls Tryz.prog 113 #[.string s, .int .i64 (k : Int), .func (.func fn) #[] #[.pointer (some ⟨g, 0, none⟩)]] w (ReadsPost g s P r w) := by
  have hmf : ∀ (fn : Fn) (first cap : Array Value) (w : World), (Instr.makeFunc fn first cap).run Tryz.prog w = .ok (.func fn first cap) w := fun _ _ _ _ => rfl
  have t1 : decide ((k : Int) < 0) = false := by simp
  have t2 : decide ((s.size : Int) < (k : Int)) = false := by simp; omega
  have t3 : ¬ s.size < k := by omega
  have hW3 : (((w.alloc (.cells #[.int .i64 0] 3)).alloc (.cells #[.int .i64 0] 31)).alloc (.cells #[.string s, .int .i64 (k : Int), .int .i64 0] 247)).heap.size = w.heap.size + 3 := by simp
  have hb0 : RdB (w.heap.size + 1 + 1) s k 0 (((w.alloc (.cells #[.int .i64 0] 3)).alloc (.cells #[.int .i64 0] 31)).alloc (.cells #[.string s, .int .i64 (k : Int), .int .i64 0] 247)) := by
    have := heap_alloc_new ((w.alloc (.cells #[.int .i64 0] 3)).alloc (.cells #[.int .i64 0] 31)) (.cells #[.string s, .int .i64 (k : Int), .int .i64 0] 247)
    rwa [show ((w.alloc (.cells #[.int .i64 0] 3)).alloc (.cells #[.int .i64 0] 31)).heap.size = w.heap.size + 1 + 1 by simp] at this
  have hn0 : (((w.alloc (.cells #[.int .i64 0] 3)).alloc (.cells #[.int .i64 0] 31)).alloc (.cells #[.string s, .int .i64 (k : Int), .int .i64 0] 247)).heap[w.heap.size]? = some (.cells #[.int .i64 0] 3 (0, 0)) := by
    rw [Lib.alloc_old _ _ _ (by simp; omega), Lib.alloc_old _ _ _ (by simp)]; exact heap_alloc_new w _
  have he0 : (((w.alloc (.cells #[.int .i64 0] 3)).alloc (.cells #[.int .i64 0] 31)).alloc (.cells #[.string s, .int .i64 (k : Int), .int .i64 0] 247)).heap[w.heap.size + 1]? = some (.cells #[.int .i64 0] 31 (0, 0)) := by
    rw [Lib.alloc_old _ _ _ (by simp)]
    have := heap_alloc_new (w.alloc (.cells #[.int .i64 0] 3)) (.cells #[.int .i64 0] 31)
    rwa [show (w.alloc (.cells #[.int .i64 0] 3)).heap.size = w.heap.size + 1 by simp] at this
  have hf0 : Fr [] w (((w.alloc (.cells #[.int .i64 0] 3)).alloc (.cells #[.int .i64 0] 31)).alloc (.cells #[.string s, .int .i64 (k : Int), .int .i64 0] 247)) :=
    (((Fr.refl [] w).alloc _).alloc _).alloc _
  have HC := Lib.hid (hcl _ hb0 hf0 hW3); clear hcl
  have HPP := Lib.hid hP; clear hP
  have HB0 := Lib.hid hb0; have HN0 := Lib.hid hn0; have HE0 := Lib.hid he0
  clear hb0 hn0 he0
  cases r with
  | none =>
    go_enter_defers Tryz.func113, Tryz.ntmps113
    go_wp2_with fail
    refine (HC.out).mono ?_; rintro e w1 ⟨⟨x, hx, rfl⟩, hf1⟩
    have hn1 := hf1.at HN0.out (by simp <;> omega)
    have he1 := hf1.at HE0.out (by simp <;> omega)
    have n0 : w1.cell? ⟨w.heap.size, 0, none⟩ = some (.int .i64 0) := by rw [Lib.cell_of_heap hn1]; rfl
    have e0 : w1.cell? ⟨w.heap.size + 1, 0, none⟩ = some (.int .i64 0) := by rw [Lib.cell_of_heap he1]; rfl
    have nz : w1.frozen? ⟨w.heap.size, 0, none⟩ = false := Lib.frozen_of_heap hn1 0
    have ez : w1.frozen? ⟨w.heap.size + 1, 0, none⟩ = false := Lib.frozen_of_heap he1 0
    have hne : (⟨w.heap.size, 0, none⟩ : Addr) ≠ ⟨w.heap.size + 1, 0, none⟩ := by intro h; injection h with h; omega
    have hff := (((hf0.mono (m := [w.heap.size + 1 + 1, w.heap.size, w.heap.size + 1]) (by simp)).trans (hf1.mono (by simp))).setCell ⟨w.heap.size, 0, none⟩ (by simp) (.int .i64 0)).setCell ⟨w.heap.size + 1, 0, none⟩ (by simp) (.int .i64 x)
    go_wp2_with fail
    refine leaves_cons (f := 142) (args := #[.pointer (some ⟨w.heap.size, 0, none⟩), .pointer (some ⟨w.heap.size + 1, 0, none⟩)]) (by simp) (by simp [go_sem]) ?_
    refine (reads1_up ⟨w.heap.size, 0, none⟩ ⟨w.heap.size + 1, 0, none⟩ x 0 0 _ hne n0 nz e0 ez).mono ?_
    rintro e u' w'' ⟨rfl, rfl, rfl⟩
    have q0 : ((w1.setCell ⟨w.heap.size, 0, none⟩ (.int .i64 0)).setCell ⟨w.heap.size + 1, 0, none⟩ (.int .i64 x)).cell? ⟨w.heap.size, 0, none⟩ = some (.int .i64 0) := by
      rw [World.cell?_setCell_other _ _ _ _ hne.symm]; exact World.cell?_setCell_same _ _ _ n0
    have q1 : ((w1.setCell ⟨w.heap.size, 0, none⟩ (.int .i64 0)).setCell ⟨w.heap.size + 1, 0, none⟩ (.int .i64 x)).cell? ⟨w.heap.size + 1, 0, none⟩ = some (.int .i64 x) :=
      World.cell?_setCell_same _ _ _ (by rw [World.cell?_setCell_other _ _ _ _ hne]; exact e0)
    simp [Leaves, settle, results, Tryz.results113, go_sem, q0, q1]
    exact ⟨⟨x, hx, rfl⟩, ⟨hff.os, hff.tape, hff.output, hff.size, fun i hi hn => hff.block i hi (by simp at hn ⊢; omega)⟩⟩
  | some l =>
    go_enter_defers Tryz.func113, Tryz.ntmps113
    go_wp2_with fail
    refine (HC.out).mono ?_; rintro e w1 ⟨rfl, ⟨q, hr1⟩, hf1, hP1⟩
    have hn1 := hf1.at HN0.out (by simp <;> omega)
    have he1 := hf1.at HE0.out (by simp <;> omega)
    have n0 : w1.cell? ⟨w.heap.size, 0, none⟩ = some (.int .i64 0) := by rw [Lib.cell_of_heap hn1]; rfl
    have e0 : w1.cell? ⟨w.heap.size + 1, 0, none⟩ = some (.int .i64 0) := by rw [Lib.cell_of_heap he1]; rfl
    have nz : w1.frozen? ⟨w.heap.size, 0, none⟩ = false := Lib.frozen_of_heap hn1 0
    have ez : w1.frozen? ⟨w.heap.size + 1, 0, none⟩ = false := Lib.frozen_of_heap he1 0
    have r1 := hr1.c1
    generalize hk2 : s.size - l.length = k2 at *
    have HK2 := Lib.hid hk2; clear hk2
    have hne : (⟨w.heap.size, 0, none⟩ : Addr) ≠ ⟨w.heap.size + 1, 0, none⟩ := by intro h; injection h with h; omega
    have hff := (((hf0.mono (m := [w.heap.size + 1 + 1, g, w.heap.size, w.heap.size + 1]) (by simp)).trans (hf1.mono (by simp))).setCell ⟨w.heap.size, 0, none⟩ (by simp) (.int .i64 (k2 : Int))).setCell ⟨w.heap.size + 1, 0, none⟩ (by simp) (.int .i64 0)
    have hPf := HPP.out _ _ hP1 (((Fr.refl [w.heap.size, w.heap.size + 1] w1).setCell ⟨w.heap.size, 0, none⟩ (by simp) (.int .i64 (k2 : Int))).setCell ⟨w.heap.size + 1, 0, none⟩ (by simp) (.int .i64 0))
    go_wp2_with fail
    refine leaves_cons (f := 142) (args := #[.pointer (some ⟨w.heap.size, 0, none⟩), .pointer (some ⟨w.heap.size + 1, 0, none⟩)]) (by simp) (by simp [go_sem]) ?_
    refine (reads1_idle ⟨w.heap.size, 0, none⟩ ⟨w.heap.size + 1, 0, none⟩ _).mono ?_
    rintro e u' w'' ⟨rfl, rfl, rfl⟩
    have q0 : ((w1.setCell ⟨w.heap.size, 0, none⟩ (.int .i64 (k2 : Int))).setCell ⟨w.heap.size + 1, 0, none⟩ (.int .i64 0)).cell? ⟨w.heap.size, 0, none⟩ = some (.int .i64 (k2 : Int)) := by
      rw [World.cell?_setCell_other _ _ _ _ hne.symm]; exact World.cell?_setCell_same _ _ _ n0
    have q1 : ((w1.setCell ⟨w.heap.size, 0, none⟩ (.int .i64 (k2 : Int))).setCell ⟨w.heap.size + 1, 0, none⟩ (.int .i64 0)).cell? ⟨w.heap.size + 1, 0, none⟩ = some (.int .i64 0) :=
      World.cell?_setCell_same _ _ _ (by rw [World.cell?_setCell_other _ _ _ _ hne]; exact e0)
    simp [Leaves, settle, results, Tryz.results113, go_sem, q0, q1]
    exact ⟨by rw [HK2.out], ⟨hff.os, hff.tape, hff.output, hff.size, fun i hi hn => hff.block i hi (by simp at hn ⊢; omega)⟩, hPf⟩

theorem enters_ru : ∀ args w, (callFunc 114 args).run Tryz.prog w = .ok (.enter 114 args) w := enters_of Tryz.func114 (by kernel_rfl) rfl
def restU : Option (Nat × List UInt8) → Option (List UInt8)
  | none => none
  | some r => some r.2

/-- the number that was read lies there -/
def UintAt (g : Nat) (r : Option (Nat × List UInt8)) (w : World) : Prop := ∀ x, r = some x → w.heap[g]? = some (.cells #[.int .u64 (x.1 : Int)] 111 (0, 0))

set_option maxRecDepth 100000 in
set_option maxHeartbeats 4000000 in
theorem ru1_any (s : ByteArray) (hs : s.size ≤ 1000000) (b k q g : Nat) (hk : k ≤ s.size) (hbg : b ≠ g) (w : World) (hb : RdB b s k q w) (hg : w.heap[g]? = some (.cells #[.int .u64 0] 111 (0, 0))) :
    Calls Tryz.prog 114 #[.pointer (some ⟨b, 0, none⟩), .pointer (some ⟨g, 0, none⟩)] w
      (ClPost b g s (UintAt g (rdU (s.data.toList.drop k))) (restU (rdU (s.data.toList.drop k))) w) := by
  have HU := cuintR_any s hs b k q hk w hb
  generalize rdU (s.data.toList.drop k) = r at *
  cases r with
  | none =>
    have HU := Lib.hid HU
    go_enter Tryz.func114, Tryz.ntmps114
    go_wp2_with fail
    refine (HU.out).mono ?_; rintro e w1 ⟨⟨x, hx, rfl⟩, hf1⟩
    go_wp2_with fail
    exact ⟨rfl, ⟨x, hx, rfl⟩, hf1⟩
  | some r =>
    obtain ⟨n, l⟩ := r
    have HU := Lib.hid HU
    go_enter Tryz.func114, Tryz.ntmps114
    go_wp2_with fail
    refine (HU.out).mono ?_; rintro e w1 ⟨rfl, hr1, hf1⟩
    have hg1 := hf1.at hg (by simp; omega)
    have c0 : w1.cell? ⟨g, 0, none⟩ = some (.int .u64 0) := by rw [Lib.cell_of_heap hg1]; rfl
    have f0 : w1.frozen? ⟨g, 0, none⟩ = false := Lib.frozen_of_heap hg1 0
    dsimp only
    go_wp2_with fail
    go_end0
    exact ⟨rfl, ⟨q, (Below.heap_setCell _ _ _ _ hbg).trans hr1⟩, (hf1.mono (by simp)).setCell _ (by simp) _, fun x h => by
      cases h
      exact heap_setN hg1 0 _⟩

/-- what ReadUint leaves -/
def RuPost (s : ByteArray) (r : Option (Nat × List UInt8)) (w : World) (e : Ending) (w' : World) : Prop :=
  match r with
  | some v => e = .returned (.tuple #[.int .u64 (v.1 : Int), .int .i64 (s.size - v.2.length : Nat), .int .i64 0]) ∧ Below w.heap.size w w'
  | none => (∃ x : Int, x ≠ 0 ∧ e = .returned (.tuple #[.int .u64 0, .int .i64 0, .int .i64 x])) ∧ Below w.heap.size w w'

set_option maxRecDepth 100000 in
set_option maxHeartbeats 4000000 in
theorem ReadUint_any (s : ByteArray) (hs : s.size ≤ 1000000) (k : Nat) (hk : k ≤ s.size) (w : World) :
    Calls Tryz.prog 79 #[.string s, .int .i64 (k : Int)] w (RuPost s (rdU (s.data.toList.drop k)) w) := by
  have hmf : ∀ (fn : Fn) (first cap : Array Value) (w : World), (Instr.makeFunc fn first cap).run Tryz.prog w = .ok (.func fn first cap) w := fun _ _ _ _ => rfl
  have hen := enters_ru
  have hg0 : (w.alloc (.cells #[.int .u64 0] 111)).heap[w.heap.size]? = some (.cells #[.int .u64 0] 111 (0, 0)) := heap_alloc_new w _
  have hf0 := (Fr.refl [] w).alloc (.cells #[.int .u64 0] 111)
  have hsz : (w.alloc (.cells #[.int .u64 0] 111)).heap.size = w.heap.size + 1 := by simp
  have HR := reads_any s k hk 114 w.heap.size hen (restU (rdU (s.data.toList.drop k))) (UintAt w.heap.size (rdU (s.data.toList.drop k))) (w.alloc (.cells #[.int .u64 0] 111)) (by simp)
    (fun w1 w2 h1 h2 x hx => h2.at (h1 x hx) (by rw [hsz]; simp; omega))
    (fun W hb hf hz => ru1_any s hs _ k 0 w.heap.size hk (by rw [hsz]; omega) W hb (hf.at hg0 (by simp)))
  generalize rdU (s.data.toList.drop k) = r at *
  have HG := Lib.hid hg0; clear hg0
  cases r with
  | none =>
    have HR := Lib.hid HR
    go_enter Tryz.func79, Tryz.ntmps79
    go_wp2_with fail
    refine (HR.out).mono ?_; rintro e w1 ⟨⟨x, hx, rfl⟩, hf1⟩
    have hg1 := hf1.at HG.out (by simp)
    have c0 : w1.cell? ⟨w.heap.size, 0, none⟩ = some (.int .u64 0) := by rw [Lib.cell_of_heap hg1]; rfl
    have f0 : w1.frozen? ⟨w.heap.size, 0, none⟩ = false := Lib.frozen_of_heap hg1 0
    go_wp2_with fail
    have hc : (w1.setCell ⟨w.heap.size, 0, none⟩ (.int .u64 0)).cell? ⟨w.heap.size, 0, none⟩ = some (.int .u64 0) := World.cell?_setCell_same _ _ _ c0
    exact bodyPost_ret (v := .tuple #[.int .u64 0, .int .i64 0, .int .i64 x]) (by simp [results, Tryz.results79, go_sem, hc]) rfl
      ⟨⟨x, hx, rfl⟩, ((((hf0.trans hf1).mono (m := [w.heap.size]) (by simp)).setCell ⟨w.heap.size, 0, none⟩ (by simp) _).below (Nat.le_refl _) (by simp))⟩
  | some r =>
    obtain ⟨n, l⟩ := r
    have HR := Lib.hid HR
    generalize hk2 : s.size - l.length = k2 at *
    have HK2 := Lib.hid hk2; clear hk2
    go_enter Tryz.func79, Tryz.ntmps79
    go_wp2_with fail
    refine (HR.out).mono ?_; rintro e w1 ⟨he, hf1, hP⟩
    have he2 : e = .returned (.tuple #[.int .i64 (k2 : Int), .int .i64 0]) := by rw [he, ← HK2.out]
    subst he2
    clear he
    have hg1 : w1.heap[w.heap.size]? = some (.cells #[.int .u64 (n : Int)] 111 (0, 0)) := hP _ rfl
    have c0 : w1.cell? ⟨w.heap.size, 0, none⟩ = some (.int .u64 (n : Int)) := by rw [Lib.cell_of_heap hg1]; rfl
    have f0 : w1.frozen? ⟨w.heap.size, 0, none⟩ = false := Lib.frozen_of_heap hg1 0
    go_wp2_with fail
    have hc : (w1.setCell ⟨w.heap.size, 0, none⟩ (.int .u64 (n : Int))).cell? ⟨w.heap.size, 0, none⟩ = some (.int .u64 (n : Int)) := World.cell?_setCell_same _ _ _ c0
    exact bodyPost_ret (v := .tuple #[.int .u64 (n : Int), .int .i64 (k2 : Int), .int .i64 0]) (by simp [results, Tryz.results79, go_sem, hc]) rfl
      ⟨by rw [← HK2.out], (((((hf0.mono (m := [w.heap.size]) (by simp)).trans hf1)).setCell ⟨w.heap.size, 0, none⟩ (by simp) _).below (Nat.le_refl _) (by simp))⟩
end Go.Proofs.YtnaamiecljinnaaGreat
