/-
  Yq, Yr, S5, S6 in one text.
-/
import Derived.Below
import Derived.BigQuiet
import Derived.Deep.AppendLies
import Derived.Deep.Cut
import Derived.Deep.CutBlock
import Derived.Deep.DeepCutAuto
import Derived.Deep.QuietTactic
import Derived.Deep.RegionHeld3
import Derived.Deep.RegionLaw
import Derived.Deep.RegionWith
import Derived.Defers
import Derived.Handy
import Derived.IntWalk
import Derived.Laws.Bits64b
import Derived.Laws.FloatBits
import Derived.Lib.AtoiAll
import Derived.Lib.Builder
import Derived.Lib.Bytes
import Derived.Lib.ConvBytes
import Derived.Lib.FrozenHead2
import Derived.Lib.Hide
import Derived.Lib.IndexMore
import Derived.Lib.ItoaNum
import Derived.Lib.MinMax
import Derived.Lib.OthersKept
import Derived.Lib.ParseIntB
import Derived.Lib.UnsafeStr
import Derived.LoopTactic
import Derived.OneCell
import Derived.OwnWalk
import Derived.Recover
import Derived.RegionTactic
import Derived.Shelf.Abstract
import Derived.Tactics
import Derived.Tactics2
import Derived.Test.YtnaamiecljinnaaGreatChecked
import Derived.WalkKit
import Derived.WalkLawsBesides
import Derived.WalkSpells
import Ieee.Arith
import Derived.Test.YtnaamiecljinnaaGreatS00
import Derived.Test.YtnaamiecljinnaaGreatS02
import Derived.Test.YtnaamiecljinnaaGreatS03
import Derived.Test.YtnaamiecljinnaaGreatS06
import Derived.Test.YtnaamiecljinnaaGreatS08
import Derived.Test.YtnaamiecljinnaaGreatS09
import Derived.Test.YtnaamiecljinnaaGreatS10
import Derived.Test.YtnaamiecljinnaaGreatS11
import Derived.Test.YtnaamiecljinnaaGreatS12
import Derived.Test.YtnaamiecljinnaaGreatS13
namespace Go.Proofs.YtnaamiecljinnaaGreat
section
open Go.RowKit
theorem readsV_all (s : ByteArray) (hs : s.size ≤ 100000000) (b : Nat) : ∀ f : Nat, f ≤ 12 → ReadsV s b f
  | 0, _ => fun k q w _ hq hb => by
    have := cvalR_no s b k q 13 0 (by omega) (by omega) (by omega) w hb
    rw [rdV]; exact this
  | f + 1, hf => fun k q w hk hq hb => by
    rw [show 13 - (f + 1) = 12 - f by omega]
    by_cases h200 : q < 200
    · by_cases hks : k < s.size
      · have hg : s.data.toList.getD k 0 = s[k]'hks := by simp [List.getD, hks]; rfl
        have ih := readsV_all s hs b f (by omega)
        have h256 : (s[k]'hks).toNat < 256 := UInt8.toNat_lt _
        rcases Nat.lt_or_ge 6 (s[k]'hks).toNat with h7 | h7
        · exact cvalR_kX s hs b k q f _ (by omega) h200 hks rfl (.inr h7) w hb
        rcases Nat.lt_or_ge (s[k]'hks).toNat 1 with h0 | h0
        · exact cvalR_kX s hs b k q f _ (by omega) h200 hks rfl (.inl (by omega)) w hb
        have : (s[k]'hks).toNat = 1 ∨ (s[k]'hks).toNat = 2 ∨ (s[k]'hks).toNat = 3 ∨ (s[k]'hks).toNat = 4 ∨ (s[k]'hks).toNat = 5 ∨ (s[k]'hks).toNat = 6 := by omega
        rcases this with h | h | h | h | h | h
        · exact cvalR_k1 s hs b k q f (by omega) h200 hks h w hb
        · exact cvalR_k2 s hs b k q f (by omega) h200 hks h w hb
        · exact cvalR_k3 s hs b k q f (by omega) h200 hks h w hb
        · exact cvalR_k4 s hs b k q f (by omega) h200 hks h w hb
        · exact cvalR_k5 s hs b k q f (by omega) h200 hks h ih w hb
        · exact cvalR_k6 s hs b k q f (by omega) h200 hks h ih w hb
      · have := cvalR_torn s b k q (12 - f) (f + 1) (by omega) h200 (by omega) w hb
        rw [show s.data.toList.drop k = [] from List.drop_eq_nil_of_le (by simp; show s.data.size ≤ k; have : s.data.size = s.size := rfl; omega)]
        rw [rdV.eq_def]; dsimp only; rw [if_neg (by omega)]; exact this
    · have := cvalR_no s b k q (12 - f) (f + 1) (by omega) (by omega) (by omega) w hb
      rw [rdV.eq_def]; dsimp only; rw [if_pos (by omega)]; exact this
/-- what is left behind a value -/
def restV : Option (VT × List UInt8) → Option (List UInt8)
  | none => none
  | some r => some r.2
/-- the value that was read lies there; its own blocks are neither below L, nor b, nor that one -/
def ValThere (L b g : Nat) (r : Option (VT × List UInt8)) (w : World) : Prop := ∀ x, r = some x → ∃ cs, w.heap[g]? = some (.cells cs 57 (0, 0)) ∧ ValIn (fun k => L ≤ k ∧ k ≠ b ∧ k ≠ g) w 12 x.1 cs
set_option maxRecDepth 100000 in
set_option maxHeartbeats 4000000 in
theorem rv1_any (s : ByteArray) (hs : s.size ≤ 100000000) (b k g L : Nat) (hk : k ≤ s.size) (hbg : b ≠ g) (w : World) (hL : L ≤ w.heap.size) (hb : RdB b s k 0 w) (hg : w.heap[g]? = some (.cells #[.int .i64 0, .int .i64 0, .float .f64 0, .string ⟨#[]⟩, .slice none 0 0, .slice none 0 0] 57 (0, 0))) :
    Calls Tryz.prog 116 #[.pointer (some ⟨b, 0, none⟩), .pointer (some ⟨g, 0, none⟩)] w
      (ClPost b g s (ValThere L b g (rdVal (s.data.toList.drop k))) (restV (rdVal (s.data.toList.drop k))) w) := by
  have HU := readsV_all s hs b 12 (by omega) k 0 w hk (by omega) hb
  have hgl := lt_of_block hg
  have hbl := hb.lt
  have hR : rdVal (s.data.toList.drop k) = (match rdV 12 0 (s.data.toList.drop k) with | none => none | some r => if rightB r.1 then some (r.1, r.2.2) else none) := rfl
  generalize rdV 12 0 (s.data.toList.drop k) = r at *
  generalize rdVal (s.data.toList.drop k) = R at *
  cases r with
  | none =>
    have HU := Lib.hid HU
    dsimp only at hR
    subst hR
    go_enter Tryz.func116, Tryz.ntmps116
    go_wp2_with fail
    refine (HU.out).mono ?_; rintro e w1 ⟨⟨x, hx, rfl⟩, hf1⟩
    go_wp2_with fail
    exact ⟨rfl, ⟨x, hx, rfl⟩, hf1⟩
  | some r =>
    obtain ⟨v, q, l⟩ := r
    have HU := Lib.hid HU
    have HV := Lib.hid (fun cs (w1 w2 : World) (h : ValIn (fun g => w.heap.size ≤ g) w1 12 v cs) (hw : Below w1.heap.size w1 w2) => vRight_any 12 v cs w2 (h.at.kept hw))
    have hsf : ∀ (a : Addr) (x : Nat) (m : Mode) (w : World), (store a (.float .f64 x) m).run Tryz.prog w = stored Tryz.prog w a (.float .f64 x) m := fun a x m w => run_store _ w a _ m rfl
    dsimp only at hR
    cases hr : rightB v with
    | false =>
      rw [hr] at hR HV
      simp only [Bool.false_eq_true, if_false] at hR
      subst hR
      have HM := Lib.hid (cmust_no 5)
      clear hr
      go_enter Tryz.func116, Tryz.ntmps116
      go_wp2_with fail
      refine (HU.out).mono ?_; rintro e w1 ⟨cs, rfl, hv1, hr1, hf1⟩
      obtain ⟨na, nl, nc, ia, il, ic, rfl⟩ := hv1.six
      have hB1 : Below w1.heap.size w1 (w1.alloc (.cells #[.int .i64 v.kind, .int .i64 v.num, .float .f64 v.flt, .string ⟨v.str.toArray⟩, .slice na nl nc, .slice ia il ic] 57)) := (Below.refl _ _).alloc (Nat.le_refl _) _
      go_wp2_with fail
      refine (HV.out _ _ _ hv1 hB1).mono ?_; rintro e w2 ⟨rfl, hb2⟩
      go_wp2_with fail
      refine (HM.out _).mono ?_; rintro e w3 ⟨rfl, rfl⟩
      go_wp2_with fail
      have hBB := hB1.trans (hb2.mono hB1.size)
      exact ⟨rfl, ⟨5, by decide, rfl⟩, hf1.trans ⟨hBB.os, hBB.tape, hBB.output, hBB.size, fun i hi hn => hBB.block i hi⟩⟩
    | true =>
      rw [hr] at hR HV
      simp only [if_true] at hR
      subst hR
      have HM := Lib.hid (cmust_yes 5)
      clear hr
      go_enter Tryz.func116, Tryz.ntmps116
      go_wp2_with fail
      refine (HU.out).mono ?_; rintro e w1 ⟨cs, rfl, hv1, hr1, hf1⟩
      obtain ⟨na, nl, nc, ia, il, ic, rfl⟩ := hv1.six
      have hB1 : Below w1.heap.size w1 (w1.alloc (.cells #[.int .i64 v.kind, .int .i64 v.num, .float .f64 v.flt, .string ⟨v.str.toArray⟩, .slice na nl nc, .slice ia il ic] 57)) := (Below.refl _ _).alloc (Nat.le_refl _) _
      have hn1 : (w1.alloc (.cells #[.int .i64 v.kind, .int .i64 v.num, .float .f64 v.flt, .string ⟨v.str.toArray⟩, .slice na nl nc, .slice ia il ic] 57)).heap[w1.heap.size]? = some (.cells #[.int .i64 v.kind, .int .i64 v.num, .float .f64 v.flt, .string ⟨v.str.toArray⟩, .slice na nl nc, .slice ia il ic] 57 (0, 0)) := heap_alloc_new w1 _
      go_wp2_with fail
      refine (HV.out _ _ _ hv1 hB1).mono ?_; rintro e w2 ⟨rfl, hb2⟩
      have hn2 := (hb2.block _ (by simp)).trans hn1
      have hBB := hB1.trans (hb2.mono hB1.size)
      go_wp2_with fail
      refine (HM.out _).mono ?_; rintro e w3 ⟨rfl, rfl⟩
      have hfB : Fr [b] w1 w2 := ⟨hBB.os, hBB.tape, hBB.output, hBB.size, fun i hi hn => hBB.block i hi⟩
      have hg1 := hf1.at hg (by simp; omega)
      have hg2 := (hBB.block g (lt_of_block hg1)).trans hg1
      have hb2 := (hBB.block b (lt_of_block hr1)).trans hr1
      have hf2 := hf1.trans hfB
      have hv2 : ValIn (fun g => w.heap.size ≤ g) w2 12 v _ := hv1.kept hBB.size fun k hk hl => ⟨hk, hBB.block k hl⟩
      have c0 : w2.cell? ⟨g, 0, none⟩ = some (.int .i64 0) := by rw [Lib.cell_of_heap hg2]; rfl
      have z0 : w2.frozen? ⟨g, 0, none⟩ = false := Lib.frozen_of_heap hg2 0
      have c1 : w2.cell? ⟨g, 1, none⟩ = some (.int .i64 0) := by rw [Lib.cell_of_heap hg2]; rfl
      have z1 : w2.frozen? ⟨g, 1, none⟩ = false := Lib.frozen_of_heap hg2 1
      have c2 : w2.cell? ⟨g, 2, none⟩ = some (.float .f64 0) := by rw [Lib.cell_of_heap hg2]; rfl
      have z2 : w2.frozen? ⟨g, 2, none⟩ = false := Lib.frozen_of_heap hg2 2
      have c3 : w2.cell? ⟨g, 3, none⟩ = some (.string ⟨#[]⟩) := by rw [Lib.cell_of_heap hg2]; rfl
      have z3 : w2.frozen? ⟨g, 3, none⟩ = false := Lib.frozen_of_heap hg2 3
      have c4 : w2.cell? ⟨g, 4, none⟩ = some (.slice none 0 0) := by rw [Lib.cell_of_heap hg2]; rfl
      have z4 : w2.frozen? ⟨g, 4, none⟩ = false := Lib.frozen_of_heap hg2 4
      have c5 : w2.cell? ⟨g, 5, none⟩ = some (.slice none 0 0) := by rw [Lib.cell_of_heap hg2]; rfl
      have z5 : w2.frozen? ⟨g, 5, none⟩ = false := Lib.frozen_of_heap hg2 5
      have d0 : w2.cell? ⟨w1.heap.size, 0, none⟩ = some (.int .i64 v.kind) := by rw [Lib.cell_of_heap hn2]; rfl
      have d1 : w2.cell? ⟨w1.heap.size, 1, none⟩ = some (.int .i64 v.num) := by rw [Lib.cell_of_heap hn2]; rfl
      have d2 : w2.cell? ⟨w1.heap.size, 2, none⟩ = some (.float .f64 v.flt) := by rw [Lib.cell_of_heap hn2]; rfl
      have d3 : w2.cell? ⟨w1.heap.size, 3, none⟩ = some (.string ⟨v.str.toArray⟩) := by rw [Lib.cell_of_heap hn2]; rfl
      have d4 : w2.cell? ⟨w1.heap.size, 4, none⟩ = some (.slice na nl nc) := by rw [Lib.cell_of_heap hn2]; rfl
      have d5 : w2.cell? ⟨w1.heap.size, 5, none⟩ = some (.slice ia il ic) := by rw [Lib.cell_of_heap hn2]; rfl
      have hgF : (((((((w2).setCell ⟨g, 0, none⟩ (.int .i64 v.kind)).setCell ⟨g, 1, none⟩ (.int .i64 v.num)).setCell ⟨g, 2, none⟩ (.float .f64 v.flt)).setCell ⟨g, 3, none⟩ (.string ⟨v.str.toArray⟩)).setCell ⟨g, 4, none⟩ (.slice na nl nc)).setCell ⟨g, 5, none⟩ (.slice ia il ic)).heap[g]? = some (.cells #[.int .i64 v.kind, .int .i64 v.num, .float .f64 v.flt, .string ⟨v.str.toArray⟩, .slice na nl nc, .slice ia il ic] 57 (0, 0)) := heap_setN (heap_setN (heap_setN (heap_setN (heap_setN (heap_setN hg2 0 _) 1 _) 2 _) 3 _) 4 _) 5 _
      have FF := ((((((Fr.refl [g] w2).setCell ⟨g, 0, none⟩ (by simp) (.int .i64 v.kind)).setCell ⟨g, 1, none⟩ (by simp) (.int .i64 v.num)).setCell ⟨g, 2, none⟩ (by simp) (.float .f64 v.flt)).setCell ⟨g, 3, none⟩ (by simp) (.string ⟨v.str.toArray⟩)).setCell ⟨g, 4, none⟩ (by simp) (.slice na nl nc)).setCell ⟨g, 5, none⟩ (by simp) (.slice ia il ic)
      go_wp2_with fail
      go_end0
      exact ⟨rfl, ⟨q, RdB.kept hb2 FF (by simpa using hbg)⟩, (hf2.mono (by simp)).trans (FF.mono (by simp)), fun x h => by
        cases h
        exact ⟨_, hgF, hv2.kept FF.size fun k hk hl => ⟨by have : w.heap.size ≤ k := hk; omega, FF.block k hl (by have : w.heap.size ≤ k := hk; simp; omega)⟩⟩⟩
/-- what ReadValue leaves -/
def RvalPost (s : ByteArray) (r : Option (VT × List UInt8)) (w : World) (e : Ending) (w' : World) : Prop :=
  match r with
  | some v => ∃ cs, e = .returned (.tuple #[.agg cs, .int .i64 (s.size - v.2.length : Nat), .int .i64 0]) ∧ ValIn (fun g => w.heap.size ≤ g) w' 12 v.1 cs ∧ Below w.heap.size w w'
  | none => (∃ x : Int, x ≠ 0 ∧ e = .returned (.tuple #[.agg #[.int .i64 0, .int .i64 0, .float .f64 0, .string ⟨#[]⟩, .slice none 0 0, .slice none 0 0], .int .i64 0, .int .i64 x])) ∧ Below w.heap.size w w'
theorem enters_rv : ∀ args w, (callFunc 116 args).run Tryz.prog w = .ok (.enter 116 args) w := enters_of Tryz.func116 (by kernel_rfl) rfl
end
section
open Go.RowKit
set_option maxRecDepth 100000 in
set_option maxHeartbeats 4000000 in
theorem ReadValue_any (s : ByteArray) (hs : s.size ≤ 100000000) (k : Nat) (hk : k ≤ s.size) (w : World) :
    Calls Tryz.prog 80 #[.string s, .int .i64 (k : Int)] w (RvalPost s (rdVal (s.data.toList.drop k)) w) := by
  have hmf : ∀ (fn : Fn) (first cap : Array Value) (w : World), (Instr.makeFunc fn first cap).run Tryz.prog w = .ok (.func fn first cap) w := fun _ _ _ _ => rfl
  have hsf : ∀ (a : Addr) (x : Nat) (m : Mode) (w : World), (store a (.float .f64 x) m).run Tryz.prog w = stored Tryz.prog w a (.float .f64 x) m := fun a x m w => run_store _ w a _ m rfl
  have hen := enters_rv
  have hg0 : (w.alloc (.cells #[.int .i64 0, .int .i64 0, .float .f64 0, .string ⟨#[]⟩, .slice none 0 0, .slice none 0 0] 57)).heap[w.heap.size]? = some (.cells #[.int .i64 0, .int .i64 0, .float .f64 0, .string ⟨#[]⟩, .slice none 0 0, .slice none 0 0] 57 (0, 0)) := heap_alloc_new w _
  have hf0 := (Fr.refl [] w).alloc (.cells #[.int .i64 0, .int .i64 0, .float .f64 0, .string ⟨#[]⟩, .slice none 0 0, .slice none 0 0] 57)
  have hsz : (w.alloc (.cells #[.int .i64 0, .int .i64 0, .float .f64 0, .string ⟨#[]⟩, .slice none 0 0, .slice none 0 0] 57)).heap.size = w.heap.size + 1 := by simp
  have HR := reads_any s k hk 116 w.heap.size hen (restV (rdVal (s.data.toList.drop k))) (ValThere (w.heap.size + 4) (w.heap.size + 3) w.heap.size (rdVal (s.data.toList.drop k))) (w.alloc (.cells #[.int .i64 0, .int .i64 0, .float .f64 0, .string ⟨#[]⟩, .slice none 0 0, .slice none 0 0] 57)) (by simp)
    (fun w1 w2 h1 h2 x hx => by
      obtain ⟨cs, k1, k2⟩ := h1 x hx
      rw [hsz] at h2
      exact ⟨cs, h2.at k1 (by simp; omega), k2.fr h2 (fun g hg hn => by simp at hg; have := hn.1; omega)⟩)
    (fun W hb hf hz => by
      rw [hsz] at hb hz ⊢
      exact rv1_any s hs _ k w.heap.size (w.heap.size + 4) hk (by omega) W (by omega) hb (hf.at hg0 (by simp)))
  generalize rdVal (s.data.toList.drop k) = r at *
  generalize hG : w.heap.size = G at *
  have HGG := Lib.hid hG; clear hG
  have HG := Lib.hid hg0; clear hg0
  cases r with
  | none =>
    have HR := Lib.hid HR
    go_enter Tryz.func80, Tryz.ntmps80
    go_wp2_with fail
    rw [HGG.out]
    refine (HR.out).mono ?_; rintro e w1 ⟨⟨x, hx, rfl⟩, hf1⟩
    have hg1 := hf1.at HG.out (by simp)
    have hf01 := hf0.trans hf1
    have c0 : w1.cell? ⟨G, 0, none⟩ = some (.int .i64 0) := by rw [Lib.cell_of_heap hg1]; rfl
    have z0 : w1.frozen? ⟨G, 0, none⟩ = false := Lib.frozen_of_heap hg1 0
    have c1 : w1.cell? ⟨G, 1, none⟩ = some (.int .i64 0) := by rw [Lib.cell_of_heap hg1]; rfl
    have z1 : w1.frozen? ⟨G, 1, none⟩ = false := Lib.frozen_of_heap hg1 1
    have c2 : w1.cell? ⟨G, 2, none⟩ = some (.float .f64 0) := by rw [Lib.cell_of_heap hg1]; rfl
    have z2 : w1.frozen? ⟨G, 2, none⟩ = false := Lib.frozen_of_heap hg1 2
    have c3 : w1.cell? ⟨G, 3, none⟩ = some (.string ⟨#[]⟩) := by rw [Lib.cell_of_heap hg1]; rfl
    have z3 : w1.frozen? ⟨G, 3, none⟩ = false := Lib.frozen_of_heap hg1 3
    have c4 : w1.cell? ⟨G, 4, none⟩ = some (.slice none 0 0) := by rw [Lib.cell_of_heap hg1]; rfl
    have z4 : w1.frozen? ⟨G, 4, none⟩ = false := Lib.frozen_of_heap hg1 4
    have c5 : w1.cell? ⟨G, 5, none⟩ = some (.slice none 0 0) := by rw [Lib.cell_of_heap hg1]; rfl
    have z5 : w1.frozen? ⟨G, 5, none⟩ = false := Lib.frozen_of_heap hg1 5
    have hgF : (((((((w1).setCell ⟨G, 0, none⟩ (.int .i64 0)).setCell ⟨G, 1, none⟩ (.int .i64 0)).setCell ⟨G, 2, none⟩ (.float .f64 0)).setCell ⟨G, 3, none⟩ (.string ⟨#[]⟩)).setCell ⟨G, 4, none⟩ (.slice none 0 0)).setCell ⟨G, 5, none⟩ (.slice none 0 0)).heap[G]? = some (.cells #[.int .i64 0, .int .i64 0, .float .f64 0, .string ⟨#[]⟩, .slice none 0 0, .slice none 0 0] 57 (0, 0)) := heap_setN (heap_setN (heap_setN (heap_setN (heap_setN (heap_setN hg1 0 _) 1 _) 2 _) 3 _) 4 _) 5 _
    have FF := ((((((Fr.refl [G] w1).setCell ⟨G, 0, none⟩ (by simp) (.int .i64 0)).setCell ⟨G, 1, none⟩ (by simp) (.int .i64 0)).setCell ⟨G, 2, none⟩ (by simp) (.float .f64 0)).setCell ⟨G, 3, none⟩ (by simp) (.string ⟨#[]⟩)).setCell ⟨G, 4, none⟩ (by simp) (.slice none 0 0)).setCell ⟨G, 5, none⟩ (by simp) (.slice none 0 0)
    go_wp2_with fail
    clear c0 z0 c1 z1 c2 z2 c3 z3 c4 z4 c5 z5
    generalize ((((((w1).setCell ⟨G, 0, none⟩ (.int .i64 0)).setCell ⟨G, 1, none⟩ (.int .i64 0)).setCell ⟨G, 2, none⟩ (.float .f64 0)).setCell ⟨G, 3, none⟩ (.string ⟨#[]⟩)).setCell ⟨G, 4, none⟩ (.slice none 0 0)).setCell ⟨G, 5, none⟩ (.slice none 0 0) = X at *
    have y0 : X.cell? ⟨G, 0, none⟩ = some (.int .i64 0) := by rw [Lib.cell_of_heap hgF]; rfl
    have y1 : X.cell? ⟨G, 1, none⟩ = some (.int .i64 0) := by rw [Lib.cell_of_heap hgF]; rfl
    have y2 : X.cell? ⟨G, 2, none⟩ = some (.float .f64 0) := by rw [Lib.cell_of_heap hgF]; rfl
    have y3 : X.cell? ⟨G, 3, none⟩ = some (.string ⟨#[]⟩) := by rw [Lib.cell_of_heap hgF]; rfl
    have y4 : X.cell? ⟨G, 4, none⟩ = some (.slice none 0 0) := by rw [Lib.cell_of_heap hgF]; rfl
    have y5 : X.cell? ⟨G, 5, none⟩ = some (.slice none 0 0) := by rw [Lib.cell_of_heap hgF]; rfl
    refine bodyPost_ret (v := .tuple #[.agg #[.int .i64 0, .int .i64 0, .float .f64 0, .string ⟨#[]⟩, .slice none 0 0, .slice none 0 0], .int .i64 0, .int .i64 x]) (by simp [results, Tryz.results80, go_sem, y0, y1, y2, y3, y4, y5]) rfl ?_
    exact ⟨⟨x, hx, rfl⟩, ((hf01.mono (m := [G]) (by simp)).trans FF).below (Nat.le_refl _) (by simp; exact Nat.le_of_eq HGG.out)⟩
  | some r =>
    obtain ⟨v, l⟩ := r
    have HR := Lib.hid HR
    generalize hk2 : s.size - l.length = k2 at *
    have HK2 := Lib.hid hk2; clear hk2
    go_enter Tryz.func80, Tryz.ntmps80
    go_wp2_with fail
    rw [HGG.out]
    refine (HR.out).mono ?_; rintro e w1 ⟨he, hf1, hP⟩
    have he2 : e = .returned (.tuple #[.int .i64 (k2 : Int), .int .i64 0]) := by rw [he, ← HK2.out]
    subst he2
    clear he
    obtain ⟨cs, hg1, hv1⟩ := hP _ rfl
    obtain ⟨na, nl, nc, ia, il, ic, rfl⟩ := hv1.six
    clear hP
    have hf01 := (hf0.mono (m := [G]) (by simp)).trans hf1
    have c0 : w1.cell? ⟨G, 0, none⟩ = some (.int .i64 v.kind) := by rw [Lib.cell_of_heap hg1]; rfl
    have z0 : w1.frozen? ⟨G, 0, none⟩ = false := Lib.frozen_of_heap hg1 0
    have c1 : w1.cell? ⟨G, 1, none⟩ = some (.int .i64 v.num) := by rw [Lib.cell_of_heap hg1]; rfl
    have z1 : w1.frozen? ⟨G, 1, none⟩ = false := Lib.frozen_of_heap hg1 1
    have c2 : w1.cell? ⟨G, 2, none⟩ = some (.float .f64 v.flt) := by rw [Lib.cell_of_heap hg1]; rfl
    have z2 : w1.frozen? ⟨G, 2, none⟩ = false := Lib.frozen_of_heap hg1 2
    have c3 : w1.cell? ⟨G, 3, none⟩ = some (.string ⟨v.str.toArray⟩) := by rw [Lib.cell_of_heap hg1]; rfl
    have z3 : w1.frozen? ⟨G, 3, none⟩ = false := Lib.frozen_of_heap hg1 3
    have c4 : w1.cell? ⟨G, 4, none⟩ = some (.slice na nl nc) := by rw [Lib.cell_of_heap hg1]; rfl
    have z4 : w1.frozen? ⟨G, 4, none⟩ = false := Lib.frozen_of_heap hg1 4
    have c5 : w1.cell? ⟨G, 5, none⟩ = some (.slice ia il ic) := by rw [Lib.cell_of_heap hg1]; rfl
    have z5 : w1.frozen? ⟨G, 5, none⟩ = false := Lib.frozen_of_heap hg1 5
    have hgF : (((((((w1).setCell ⟨G, 0, none⟩ (.int .i64 v.kind)).setCell ⟨G, 1, none⟩ (.int .i64 v.num)).setCell ⟨G, 2, none⟩ (.float .f64 v.flt)).setCell ⟨G, 3, none⟩ (.string ⟨v.str.toArray⟩)).setCell ⟨G, 4, none⟩ (.slice na nl nc)).setCell ⟨G, 5, none⟩ (.slice ia il ic)).heap[G]? = some (.cells #[.int .i64 v.kind, .int .i64 v.num, .float .f64 v.flt, .string ⟨v.str.toArray⟩, .slice na nl nc, .slice ia il ic] 57 (0, 0)) := heap_setN (heap_setN (heap_setN (heap_setN (heap_setN (heap_setN hg1 0 _) 1 _) 2 _) 3 _) 4 _) 5 _
    have FF := ((((((Fr.refl [G] w1).setCell ⟨G, 0, none⟩ (by simp) (.int .i64 v.kind)).setCell ⟨G, 1, none⟩ (by simp) (.int .i64 v.num)).setCell ⟨G, 2, none⟩ (by simp) (.float .f64 v.flt)).setCell ⟨G, 3, none⟩ (by simp) (.string ⟨v.str.toArray⟩)).setCell ⟨G, 4, none⟩ (by simp) (.slice na nl nc)).setCell ⟨G, 5, none⟩ (by simp) (.slice ia il ic)
    go_wp2_with fail
    clear c0 z0 c1 z1 c2 z2 c3 z3 c4 z4 c5 z5
    generalize ((((((w1).setCell ⟨G, 0, none⟩ (.int .i64 v.kind)).setCell ⟨G, 1, none⟩ (.int .i64 v.num)).setCell ⟨G, 2, none⟩ (.float .f64 v.flt)).setCell ⟨G, 3, none⟩ (.string ⟨v.str.toArray⟩)).setCell ⟨G, 4, none⟩ (.slice na nl nc)).setCell ⟨G, 5, none⟩ (.slice ia il ic) = X at *
    have y0 : X.cell? ⟨G, 0, none⟩ = some (.int .i64 v.kind) := by rw [Lib.cell_of_heap hgF]; rfl
    have y1 : X.cell? ⟨G, 1, none⟩ = some (.int .i64 v.num) := by rw [Lib.cell_of_heap hgF]; rfl
    have y2 : X.cell? ⟨G, 2, none⟩ = some (.float .f64 v.flt) := by rw [Lib.cell_of_heap hgF]; rfl
    have y3 : X.cell? ⟨G, 3, none⟩ = some (.string ⟨v.str.toArray⟩) := by rw [Lib.cell_of_heap hgF]; rfl
    have y4 : X.cell? ⟨G, 4, none⟩ = some (.slice na nl nc) := by rw [Lib.cell_of_heap hgF]; rfl
    have y5 : X.cell? ⟨G, 5, none⟩ = some (.slice ia il ic) := by rw [Lib.cell_of_heap hgF]; rfl
    refine bodyPost_ret (v := .tuple #[.agg #[.int .i64 v.kind, .int .i64 v.num, .float .f64 v.flt, .string ⟨v.str.toArray⟩, .slice na nl nc, .slice ia il ic], .int .i64 (k2 : Int), .int .i64 0]) (by simp [results, Tryz.results80, go_sem, y0, y1, y2, y3, y4, y5]) rfl ?_
    exact ⟨_, by rw [← HK2.out], hv1.kept FF.size (fun k hk hl => ⟨by have := hk.1; have := HGG.out; omega, FF.block k hl (by have := hk.1; simp; omega)⟩), (hf01.trans FF).below (Nat.le_refl _) (by simp; exact Nat.le_of_eq HGG.out)⟩
end
section
open Go.RowKit
/-- the snapshot's reader: its text, its place -/
def SrB (b : Nat) (s : ByteArray) (k : Nat) (w : World) : Prop := w.heap[b]? = some (.cells #[.string s, .int .i64 k] 86 (0, 0))
theorem SrB.c0 {b : Nat} {s : ByteArray} {k : Nat} {w : World} (h : SrB b s k w) : w.cell? ⟨b, 0, none⟩ = some (.string s) := by rw [Lib.cell_of_heap h]; rfl
theorem SrB.c1 {b : Nat} {s : ByteArray} {k : Nat} {w : World} (h : SrB b s k w) : w.cell? ⟨b, 1, none⟩ = some (.int .i64 k) := by rw [Lib.cell_of_heap h]; rfl
theorem SrB.fz {b : Nat} {s : ByteArray} {k : Nat} {w : World} (h : SrB b s k w) (i : Nat) : w.frozen? ⟨b, i, none⟩ = false := Lib.frozen_of_heap h i
theorem SrB.put1 {b : Nat} {s : ByteArray} {k : Nat} {w : World} (h : SrB b s k w) (c : Nat) : SrB b s c (w.setCell ⟨b, 1, none⟩ (.int .i64 c)) := heap_setN h 1 _
theorem SrB.drewN {b : Nat} {s : ByteArray} {k : Nat} {w : World} (h : SrB b s k w) (n : Nat) : SrB b s k (w.drewN n) := h
theorem SrB.drew {b : Nat} {s : ByteArray} {k : Nat} {w : World} (h : SrB b s k w) : SrB b s k w.drew := h
theorem SrB.lt {b : Nat} {s : ByteArray} {k : Nat} {w : World} (h : SrB b s k w) : b < w.heap.size := lt_of_block h
theorem SrB.below {b : Nat} {s : ByteArray} {k : Nat} {w w' : World} (h : SrB b s k w) (hb : Below w.heap.size w w') : SrB b s k w' := (hb.block b h.lt).trans h
theorem SrB.kept {b : Nat} {s : ByteArray} {k : Nat} {l : List Nat} {w w' : World} (h : SrB b s k w) (hf : Fr l w w') (hb : b ∉ l) : SrB b s k w' := hf.at h hb
/-- a count read -/
def numR (l : List UInt8) : Option (Nat × List UInt8) :=
  match rdU l with
  | none => none
  | some r => if r.1 ≤ 2199023255552 then some r else none
def manyR (l : List UInt8) : Option (Nat × List UInt8) :=
  match numR l with
  | none => none
  | some r => if r.1 ≤ 500 then some r else none
/-- what a call of the snapshot's reader leaves: a value and its place, or it gave up -/
def SrPost (b : Nat) (s : ByteArray) (w : World) (r : Option (Value × List UInt8)) (e : Ending) (w' : World) : Prop :=
  match r with
  | some v => e = .returned v.1 ∧ SrB b s (s.size - v.2.length) w' ∧ Fr [b] w w'
  | none => e = gave 5 ∧ Fr [b] w w'
set_option maxRecDepth 100000 in
set_option maxHeartbeats 4000000 in
theorem snumR_any (s : ByteArray) (hs : s.size ≤ 100000000) (k : Nat) (hk : k ≤ s.size) (b : Nat) (w : World) (hb : SrB b s k w) :
    Calls Tryz.prog 48 #[.pointer (some ⟨b, 0, none⟩)] w (SrPost b s w (onN (fun n => .int .i64 (n : Int)) (numR (s.data.toList.drop k)))) := by
  have HR := Lib.hid (fun w => ReadUint_any s hs k hk w)
  have HMy := Lib.hid must_yes
  have HMn := Lib.hid must_no
  have c0 := hb.c0; have c1 := hb.c1
  have HBb := Lib.hid (fun w' (h : Below w.heap.size w w') => hb.below h)
  unfold numR
  generalize rdU (s.data.toList.drop k) = r at *
  have HRR := HR.out
  cases r with
  | none =>
    have HRR := Lib.hid HRR
    go_enter Tryz.func48, Tryz.ntmps48
    go_wp2_with fail
    go_region_held3 (fun w' => w'.cell? ⟨b, 0, none⟩ = some (.string s) ∧ w'.cell? ⟨b, 1, none⟩ = some (.int .i64 (k : Int))) (first | exact ⟨c0, c1⟩ | go_keep | exact ⟨(HBb.out _ (undrew hb1)).c0, (HBb.out _ (undrew hb1)).c1⟩) ((go_at_call 79; (with_reducible refine (HRR.out _).mono ?_); rintro e w1 ⟨⟨x, hx, rfl⟩, hb1⟩))
    have tx : (x == 0) = false := beq_eq_false_iff_ne.2 hx
    clear hx
    go_wp2_with fail
    refine (HMn.out _).mono ?_; rintro e w2 ⟨rfl, rfl⟩
    go_wp2_with fail
    exact ⟨rfl, rfl, Fr.of_below (undrew hb1)⟩
  | some r =>
    obtain ⟨n, l⟩ := r
    have hle : s.size - l.length ≤ s.size := Nat.sub_le _ _
    generalize hk2 : s.size - l.length = k2 at *
    have HK2 := Lib.hid hk2; clear hk2
    have HRR := Lib.hid (fun w => (HRR w).mono fun e w' (h : RuPost s (some (n, l)) w e w') => (show e = .returned (.tuple #[.int .u64 (n : Int), .int .i64 (k2 : Int), .int .i64 0]) ∧ Below w.heap.size w w' from by rw [← HK2.out]; exact h))
    by_cases hn : n ≤ 2199023255552
    · have t1 : decide ((n : Int) ≤ 2199023255552) = true := by simp; omega
      rw [show (match (some (n, l) : Option (Nat × List UInt8)) with | none => none | some r => if r.1 ≤ 2199023255552 then some r else none) = some (n, l) from if_pos hn]
      go_enter Tryz.func48, Tryz.ntmps48
      go_wp2_with fail
      go_region_held3 (fun w' => w'.cell? ⟨b, 0, none⟩ = some (.string s) ∧ w'.cell? ⟨b, 1, none⟩ = some (.int .i64 (k : Int))) (first | exact ⟨c0, c1⟩ | go_keep | exact ⟨(HBb.out _ (undrew hb1)).c0, (HBb.out _ (undrew hb1)).c1⟩) ((go_at_call 79; (with_reducible refine (HRR.out _).mono ?_); rintro e w1 ⟨rfl, hb1⟩))
      go_wp2_with fail
      refine (HMy.out _).mono ?_; rintro e w2 ⟨rfl, rfl⟩
      have hb2 := HBb.out _ (undrew hb1)
      have d1 := hb2.c1; have f1 := hb2.fz 1
      go_wp2_with fail
      go_ret
      exact ⟨rfl, by show SrB b s (s.size - l.length) _; rw [HK2.out]; exact hb2.put1 k2, (Fr.of_below (undrew hb1)).setCell (l := [b]) _ (by simp) _⟩
    · have t1 : decide ((n : Int) ≤ 2199023255552) = false := by simp; omega
      rw [show (match (some (n, l) : Option (Nat × List UInt8)) with | none => none | some r => if r.1 ≤ 2199023255552 then some r else none) = none from if_neg hn]
      go_enter Tryz.func48, Tryz.ntmps48
      go_wp2_with fail
      go_region_held3 (fun w' => w'.cell? ⟨b, 0, none⟩ = some (.string s) ∧ w'.cell? ⟨b, 1, none⟩ = some (.int .i64 (k : Int))) (first | exact ⟨c0, c1⟩ | go_keep | exact ⟨(HBb.out _ (undrew hb1)).c0, (HBb.out _ (undrew hb1)).c1⟩) ((go_at_call 79; (with_reducible refine (HRR.out _).mono ?_); rintro e w1 ⟨rfl, hb1⟩))
      go_wp2_with fail
      refine (HMn.out _).mono ?_; rintro e w2 ⟨rfl, rfl⟩
      go_wp2_with fail
      exact ⟨rfl, rfl, Fr.of_below (undrew hb1)⟩
end
section
open Go.RowKit
theorem drop_len (s : ByteArray) {l : List UInt8} (h : l.length ≤ s.size) (hl : ∃ k, l = s.data.toList.drop k) : s.data.toList.drop (s.size - l.length) = l := by
  obtain ⟨j, rfl⟩ := hl
  have e : s.data.toList.length = s.size := by simp
  rw [List.length_drop, e]
  rcases Nat.le_total j s.size with g | g
  · rw [show s.size - (s.size - j) = j by omega]
  · rw [show s.size - (s.size - j) = s.size by omega, List.drop_eq_nil_of_le (by omega), List.drop_eq_nil_of_le (by omega)]
/-- what is left behind a number is an end of the text -/
theorem rdUF_drop : ∀ (f : Nat) (l : List UInt8) (r : Nat × List UInt8), rdUF f l = some r → ∃ j, r.2 = l.drop j
  | 0, _, _, h => by rw [rdUF] at h; cases h
  | f + 1, [], _, h => by rw [rdUF] at h; cases h
  | f + 1, b :: l, r, h => by
    rw [rdUF] at h
    split at h
    · cases h
    · split at h
      · cases h; exact ⟨1, rfl⟩
      · split at h
        · cases h
        · rename_i q hq
          cases h
          obtain ⟨j, hj⟩ := rdUF_drop f l q hq
          exact ⟨j + 1, by rw [List.drop_succ_cons, ← hj]⟩
/-- an end of a text -/
def EndOf (s : ByteArray) (l : List UInt8) : Prop := ∃ k, k ≤ s.size ∧ l = s.data.toList.drop k
theorem EndOf.len {s : ByteArray} {l : List UInt8} (h : EndOf s l) : l.length ≤ s.size := by
  obtain ⟨k, hk, rfl⟩ := h
  have e : s.data.toList.length = s.size := by simp
  rw [List.length_drop, e]; omega
theorem EndOf.back {s : ByteArray} {l : List UInt8} (h : EndOf s l) : s.data.toList.drop (s.size - l.length) = l := drop_len s h.len ⟨h.choose, h.choose_spec.2⟩
theorem EndOf.drop {s : ByteArray} {l : List UInt8} (h : EndOf s l) (j : Nat) : EndOf s (l.drop j) := by
  obtain ⟨k, hk, rfl⟩ := h
  have e : s.data.toList.length = s.size := by simp
  rw [List.drop_drop]
  rcases Nat.le_total (k + j) s.size with g | g
  · exact ⟨k + j, g, rfl⟩
  · exact ⟨s.size, Nat.le_refl _, by rw [List.drop_eq_nil_of_le (by omega), List.drop_eq_nil_of_le (by omega)]⟩
theorem EndOf.num {s : ByteArray} {l : List UInt8} (h : EndOf s l) {r : Nat × List UInt8} (hr : numR l = some r) : EndOf s r.2 := by
  unfold numR at hr
  split at hr
  · cases hr
  · rename_i q hq
    split at hr
    · cases hr
      obtain ⟨j, hj⟩ := rdUF_drop 10 l r hq
      rw [hj]; exact h.drop j
    · cases hr
theorem EndOf.start (s : ByteArray) (k : Nat) (hk : k ≤ s.size) : EndOf s (s.data.toList.drop k) := ⟨k, hk, rfl⟩
/-- the snapshot's reader, by what is left of its text -/
def SrL (b : Nat) (s : ByteArray) (l : List UInt8) (w : World) : Prop := EndOf s l ∧ SrB b s (s.size - l.length) w
theorem SrL.drew {b : Nat} {s : ByteArray} {l : List UInt8} {w : World} (h : SrL b s l w) : SrL b s l w.drew := h
theorem SrL.lt {b : Nat} {s : ByteArray} {l : List UInt8} {w : World} (h : SrL b s l w) : b < w.heap.size := h.2.lt
theorem SrL.kept {b : Nat} {s : ByteArray} {l : List UInt8} {m : List Nat} {w w' : World} (h : SrL b s l w) (hf : Fr m w w') (hb : b ∉ m) : SrL b s l w' := ⟨h.1, h.2.kept hf hb⟩
theorem SrL.below {b : Nat} {s : ByteArray} {l : List UInt8} {w w' : World} (h : SrL b s l w) (hb : Below w.heap.size w w') : SrL b s l w' := ⟨h.1, h.2.below hb⟩
/-- what a call of it leaves, told by what is left of the text -/
def SlPost (b : Nat) (s : ByteArray) (w : World) (r : Option (Value × List UInt8)) (e : Ending) (w' : World) : Prop :=
  match r with
  | some v => e = .returned v.1 ∧ SrL b s v.2 w' ∧ Fr [b] w w'
  | none => e = gave 5 ∧ Fr [b] w w'
theorem snumL (s : ByteArray) (hs : s.size ≤ 100000000) (b : Nat) (l : List UInt8) (w : World) (hb : SrL b s l w) :
    Calls Tryz.prog 48 #[.pointer (some ⟨b, 0, none⟩)] w (SlPost b s w (onN (fun n => .int .i64 (n : Int)) (numR l))) := by
  have h := snumR_any s hs (s.size - l.length) (Nat.sub_le _ _) b w hb.2
  rw [hb.1.back] at h
  have he := fun r => hb.1.num (r := r)
  generalize numR l = r at *
  cases r with
  | none => exact h
  | some r => exact h.mono fun e w' ⟨h1, h2, h3⟩ => ⟨h1, ⟨he _ rfl, h2⟩, h3⟩
set_option maxRecDepth 100000 in
set_option maxHeartbeats 4000000 in
theorem smanyL (s : ByteArray) (hs : s.size ≤ 100000000) (b : Nat) (l : List UInt8) (w : World) (hb : SrL b s l w) :
    Calls Tryz.prog 49 #[.pointer (some ⟨b, 0, none⟩)] w (SlPost b s w (onN (fun n => .int .i64 (n : Int)) (manyR l))) := by
  have HN := snumL s hs b l w hb
  have HMy := Lib.hid must_yes
  have HMn := Lib.hid must_no
  cases hr : numR l with
  | none =>
    rw [hr] at HN
    rw [show manyR l = none by unfold manyR; rw [hr]]
    clear hr
    have HN := Lib.hid HN
    go_enter Tryz.func49, Tryz.ntmps49
    go_wp2_with fail
    refine (HN.out).mono ?_; rintro e w1 ⟨rfl, hf1⟩
    go_wp2_with fail
    exact ⟨rfl, rfl, hf1⟩
  | some r =>
    obtain ⟨n, l1⟩ := r
    rw [hr] at HN
    have HN := Lib.hid HN
    by_cases hn : n ≤ 500
    · rw [show manyR l = some (n, l1) by unfold manyR; rw [hr]; exact if_pos hn]
      clear hr
      have t1 : decide ((n : Int) ≤ 500) = true := by simp; omega
      go_enter Tryz.func49, Tryz.ntmps49
      go_wp2_with fail
      refine (HN.out).mono ?_; rintro e w1 ⟨rfl, h1, hf1⟩
      dsimp only
      go_wp2_with fail
      refine (HMy.out _).mono ?_; rintro e w2 ⟨rfl, rfl⟩
      go_wp2_with fail
      go_ret
      exact ⟨rfl, h1, hf1⟩
    · rw [show manyR l = none by unfold manyR; rw [hr]; exact if_neg hn]
      clear hr
      have t1 : decide ((n : Int) ≤ 500) = false := by simp; omega
      go_enter Tryz.func49, Tryz.ntmps49
      go_wp2_with fail
      refine (HN.out).mono ?_; rintro e w1 ⟨rfl, h1, hf1⟩
      dsimp only
      go_wp2_with fail
      refine (HMn.out _).mono ?_; rintro e w2 ⟨rfl, rfl⟩
      go_wp2_with fail
      exact ⟨rfl, rfl, hf1⟩
/-- an instance read -/
def instR (l : List UInt8) : Option ((Nat × Nat) × List UInt8) :=
  match numR l with
  | none => none
  | some r => match numR r.2 with | none => none | some q => some ((r.1, q.1), q.2)
def onI : Option ((Nat × Nat) × List UInt8) → Option (Value × List UInt8)
  | none => none
  | some r => some (.agg #[.int .i64 (r.1.1 : Int), .int .i64 (r.1.2 : Int)], r.2)
set_option maxRecDepth 100000 in
set_option maxHeartbeats 4000000 in
theorem sinstL (s : ByteArray) (hs : s.size ≤ 100000000) (b : Nat) (l : List UInt8) (w : World) (hb : SrL b s l w) :
    Calls Tryz.prog 50 #[.pointer (some ⟨b, 0, none⟩)] w (SlPost b s w (onI (instR l)) ) := by
  have HS := Lib.hid (fun l w hb => snumL s hs b l w hb)
  have hbl := hb.lt
  have hb0 := hb.below ((Below.refl _ _).alloc (Nat.le_refl _) (.cells #[.int .i64 0, .int .i64 0] 50))
  have hf0 := (Fr.refl [b] w).alloc (.cells #[.int .i64 0, .int .i64 0] 50)
  have hg0 : (w.alloc (.cells #[.int .i64 0, .int .i64 0] 50)).heap[w.heap.size]? = some (.cells #[.int .i64 0, .int .i64 0] 50 (0, 0)) := heap_alloc_new w _
  have HN := HS.out l _ hb0
  cases hr : numR l with
  | none =>
    rw [hr] at HN
    rw [show instR l = none by unfold instR; rw [hr]]
    clear hr
    have HN := Lib.hid HN
    go_enter Tryz.func50, Tryz.ntmps50
    go_wp2_with fail
    refine (HN.out).mono ?_; rintro e w1 ⟨rfl, hf1⟩
    go_wp2_with fail
    exact ⟨rfl, rfl, hf0.trans hf1⟩
  | some r =>
    obtain ⟨n, l1⟩ := r
    rw [hr] at HN
    have HN := Lib.hid HN
    have HM := Lib.hid (fun w hb => HS.out l1 w hb)
    cases hq : numR l1 with
    | none =>
      rw [hq] at HM
      rw [show instR l = none by unfold instR; rw [hr]; dsimp only; rw [hq]]
      clear hr hq
      go_enter Tryz.func50, Tryz.ntmps50
      go_wp2_with fail
      refine (HN.out).mono ?_; rintro e w1 ⟨rfl, h1, hf1⟩
      dsimp only
      go_wp2_with fail
      refine (HM.out _ h1).mono ?_; rintro e w2 ⟨rfl, hf2⟩
      go_wp2_with fail
      exact ⟨rfl, rfl, (hf0.trans hf1).trans hf2⟩
    | some q =>
      obtain ⟨m, l2⟩ := q
      rw [hq] at HM
      rw [show instR l = some ((n, m), l2) by unfold instR; rw [hr]; dsimp only; rw [hq]]
      clear hr hq
      have HG := Lib.hid hg0; clear hg0
      go_enter Tryz.func50, Tryz.ntmps50
      go_wp2_with fail
      refine (HN.out).mono ?_; rintro e w1 ⟨rfl, h1, hf1⟩
      dsimp only
      go_wp2_with fail
      refine (HM.out _ h1).mono ?_; rintro e w2 ⟨rfl, h2, hf2⟩
      have hg2 := (hf1.trans hf2).at HG.out (by simp; omega)
      have c0 : w2.cell? ⟨w.heap.size, 0, none⟩ = some (.int .i64 0) := by rw [Lib.cell_of_heap hg2]; rfl
      have c1 : w2.cell? ⟨w.heap.size, 1, none⟩ = some (.int .i64 0) := by rw [Lib.cell_of_heap hg2]; rfl
      have f0 : w2.frozen? ⟨w.heap.size, 0, none⟩ = false := Lib.frozen_of_heap hg2 0
      have f1 : w2.frozen? ⟨w.heap.size, 1, none⟩ = false := Lib.frozen_of_heap hg2 1
      go_wp2_with fail
      have hg3 : ((w2.setCell ⟨w.heap.size, 0, none⟩ (.int .i64 (n : Int))).setCell ⟨w.heap.size, 1, none⟩ (.int .i64 (m : Int))).heap[w.heap.size]? = some (.cells #[.int .i64 (n : Int), .int .i64 (m : Int)] 50 (0, 0)) := heap_setN (heap_setN hg2 0 _) 1 _
      have q0 : ((w2.setCell ⟨w.heap.size, 0, none⟩ (.int .i64 (n : Int))).setCell ⟨w.heap.size, 1, none⟩ (.int .i64 (m : Int))).cell? ⟨w.heap.size, 0, none⟩ = some (.int .i64 (n : Int)) := by rw [Lib.cell_of_heap hg3]; rfl
      have q1 : ((w2.setCell ⟨w.heap.size, 0, none⟩ (.int .i64 (n : Int))).setCell ⟨w.heap.size, 1, none⟩ (.int .i64 (m : Int))).cell? ⟨w.heap.size, 1, none⟩ = some (.int .i64 (m : Int)) := by rw [Lib.cell_of_heap hg3]; rfl
      have hf3 := ((Fr.refl [w.heap.size] w2).setCell ⟨w.heap.size, 0, none⟩ (by simp) (.int .i64 (n : Int))).setCell ⟨w.heap.size, 1, none⟩ (by simp) (.int .i64 (m : Int))
      have hff := (((hf0.trans hf1).trans hf2).mono (m := [b, w.heap.size]) (by simp)).trans (hf3.mono (by simp))
      exact bodyPost_ret (v := .agg #[.int .i64 (n : Int), .int .i64 (m : Int)]) (by simp [results, Tryz.results50, go_sem, q0, q1]) rfl
        ⟨rfl, h2.kept hf3 (by simp; omega), ⟨hff.os, hff.tape, hff.output, hff.size, fun i hi hn => hff.block i hi (by simp at hn ⊢; omega)⟩⟩
end
end Go.Proofs.YtnaamiecljinnaaGreat
