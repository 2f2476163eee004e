/-
  U5, Yv in one text.
-/
import Derived.Below
import Derived.BigQuiet
import Derived.Deep.AppendLies
import Derived.Deep.Cut
import Derived.Deep.CutBlock
import Derived.Deep.DeepCutAuto
import Derived.Deep.QuietTactic
import Derived.Deep.RegionHeld3
import Derived.Deep.RegionLaw
import Derived.Deep.RegionWith
import Derived.Defers
import Derived.Handy
import Derived.IntWalk
import Derived.Laws.Bits64b
import Derived.Laws.FloatBits
import Derived.Lib.AtoiAll
import Derived.Lib.Builder
import Derived.Lib.Bytes
import Derived.Lib.ConvBytes
import Derived.Lib.FrozenHead2
import Derived.Lib.Hide
import Derived.Lib.IndexMore
import Derived.Lib.ItoaNum
import Derived.Lib.MinMax
import Derived.Lib.OthersKept
import Derived.Lib.ParseIntB
import Derived.Lib.UnsafeStr
import Derived.LoopTactic
import Derived.OneCell
import Derived.OwnWalk
import Derived.Recover
import Derived.RegionTactic
import Derived.Shelf.Abstract
import Derived.StillTailTactics
import Derived.Tactics
import Derived.Tactics2
import Derived.Test.YtnaamiecljinnaaGreatChecked
import Derived.WalkKit
import Derived.WalkLawsBesides
import Derived.WalkSpells
import Ieee.Arith
import Derived.Test.YtnaamiecljinnaaGreatS00
import Derived.Test.YtnaamiecljinnaaGreatS02
import Derived.Test.YtnaamiecljinnaaGreatS08
import Derived.Test.YtnaamiecljinnaaGreatS16
import Derived.Test.YtnaamiecljinnaaGreatS17
namespace Go.Proofs.YtnaamiecljinnaaGreat
section
open Go.RowKit
/-- are two values the same? -/
def sameV (a b : VT) : Bool := decide (ordV a b = 0)
set_option maxRecDepth 100000 in
set_option maxHeartbeats 4000000 in
theorem rRight_any (d : Nat) (v : VT) (cs : Array Value) (w : World) (h : ValAt w d v cs) : Calls Tryz.prog 44 #[.agg cs] w (Gives (.bool (rightB v)) w) := by
  obtain ⟨pp, pc, p, cap, rfl⟩ := h.sixS
  have hB : Below w.heap.size w (w.alloc (.cells #[.int .i64 v.kind, .int .i64 v.num, .float .f64 v.flt, .string ⟨v.str.toArray⟩, .slice pp v.names.length pc, .slice p v.items.length cap] 57)) := (Below.refl _ _).alloc (Nat.le_refl _) _
  have hnA : (w.alloc (.cells #[.int .i64 v.kind, .int .i64 v.num, .float .f64 v.flt, .string ⟨v.str.toArray⟩, .slice pp v.names.length pc, .slice p v.items.length cap] 57)).heap[w.heap.size]? = some (.cells #[.int .i64 v.kind, .int .i64 v.num, .float .f64 v.flt, .string ⟨v.str.toArray⟩, .slice pp v.names.length pc, .slice p v.items.length cap] 57 (0, 0)) := heap_alloc_new w _
  have HP := Lib.hid (rparts_any d v _ _ (h.kept hB))
  have HC := Lib.hid (fun w' (hb' : Below _ _ w') => rright_any d v _ 12 w' (by omega) (h.kept (hB.trans (hb'.mono hB.size))))
  have HBl := Lib.hid (fun x (h : Below _ _ x) => (h.block _ (lt_of_block hnA)).trans hnA)
  have hR := rightB.eq_def v
  clear h
  generalize (⟨v.str.toArray⟩ : ByteArray) = S at *
  generalize v.kind = K at *
  generalize v.num = X at *
  generalize v.flt = fa at *
  generalize v.names.length = M at *
  generalize v.items.length = N at *
  generalize rightV v 12 = rv at *
  generalize rightB v = R at *
  by_cases h2 : countV v 0 ≤ 200
  · have t1 : decide (((countV v 0 : Nat) : Int) ≤ 200) = true := by simp; omega
    rw [decide_eq_true h2, Bool.true_and] at hR
    have HR := Lib.hid hR; clear hR
    generalize countV v 0 = m at *
    go_enter Tryz.func44, Tryz.ntmps44
    go_wp2_with fail
    refine (HP.out).mono ?_; rintro e w2 ⟨rfl, hb2⟩
    have nA := HBl.out _ hb2
    generalize hgh : w.heap.size = H at *
    have HH := Lib.hid hgh; clear hgh
    have a0 : w2.cell? ⟨H, 0, none⟩ = some (.int .i64 K) := by rw [Lib.cell_of_heap nA]; rfl
    have a1 : w2.cell? ⟨H, 1, none⟩ = some (.int .i64 X) := by rw [Lib.cell_of_heap nA]; rfl
    have a2 : w2.cell? ⟨H, 2, none⟩ = some (.float .f64 fa) := by rw [Lib.cell_of_heap nA]; rfl
    have a3 : w2.cell? ⟨H, 3, none⟩ = some (.string S) := by rw [Lib.cell_of_heap nA]; rfl
    have a4 : w2.cell? ⟨H, 4, none⟩ = some (.slice pp M pc) := by rw [Lib.cell_of_heap nA]; rfl
    have a5 : w2.cell? ⟨H, 5, none⟩ = some (.slice p N cap) := by rw [Lib.cell_of_heap nA]; rfl
    clear nA
    go_wp2_with fail
    refine (HC.out _ hb2).mono ?_; rintro e w3 ⟨rfl, hb3⟩
    go_wp2_with fail
    go_ret
    exact ⟨ret_val (by rw [HR.out]; rfl), by rw [HH.out]; exact hB.trans ((below_tr' hb2 hb3).mono (by have := hB.size; rw [HH.out] at this; exact this))⟩
  · have t1 : decide (((countV v 0 : Nat) : Int) ≤ 200) = false := by simp; omega
    rw [decide_eq_false h2, Bool.false_and] at hR
    have HR := Lib.hid hR; clear hR
    generalize countV v 0 = m at *
    go_enter Tryz.func44, Tryz.ntmps44
    go_wp2_with fail
    refine (HP.out).mono ?_; rintro e w2 ⟨rfl, hb2⟩
    go_wp2_with fail
    go_ret
    exact ⟨ret_val (by rw [HR.out]; rfl), hB.trans (hb2.mono hB.size)⟩
set_option maxRecDepth 100000 in
set_option maxHeartbeats 4000000 in
theorem rSame_any (d d2 : Nat) (a b : VT) (ca cb : Array Value) (w : World) (ha : ValAt w d a ca) (hb : ValAt w d2 b cb) : Calls Tryz.prog 26 #[.agg ca, .agg cb] w (Gives (.bool (sameV a b)) w) := by
  obtain ⟨pp, pc, p, cap, rfl⟩ := ha.sixS
  obtain ⟨pp', pc', p', cap', rfl⟩ := hb.sixS
  have hB1 : Below w.heap.size w (w.alloc (.cells #[.int .i64 a.kind, .int .i64 a.num, .float .f64 a.flt, .string ⟨a.str.toArray⟩, .slice pp a.names.length pc, .slice p a.items.length cap] 57)) := (Below.refl _ _).alloc (Nat.le_refl _) _
  have hB := hB1.alloc (o := .cells #[.int .i64 b.kind, .int .i64 b.num, .float .f64 b.flt, .string ⟨b.str.toArray⟩, .slice pp' b.names.length pc', .slice p' b.items.length cap'] 57) hB1.size
  have HC := Lib.hid (rOrder_any d d2 a b _ _ _ (ha.kept hB) (hb.kept hB))
  have hS := sameV.eq_def a b
  clear ha hb hB1
  generalize (⟨a.str.toArray⟩ : ByteArray) = S at *
  generalize (⟨b.str.toArray⟩ : ByteArray) = S' at *
  generalize ordV a b = c at *
  generalize sameV a b = R at *
  by_cases hc : c = 0
  · have t0 : (c == 0) = true := by rw [hc]; rfl
    rw [decide_eq_true hc] at hS
    have HS := Lib.hid hS
    clear hc hS
    go_enter Tryz.func26, Tryz.ntmps26
    go_wp2_with fail
    refine (HC.out).mono ?_; rintro e w2 ⟨rfl, hb2⟩
    go_wp2_with fail
    go_ret
    exact ⟨ret_val (by rw [HS.out]; rfl), hB.trans (hb2.mono hB.size)⟩
  · have t0 : (c == 0) = false := beq_eq_false_iff_ne.2 hc
    rw [decide_eq_false hc] at hS
    have HS := Lib.hid hS
    clear hc hS
    go_enter Tryz.func26, Tryz.ntmps26
    go_wp2_with fail
    refine (HC.out).mono ?_; rintro e w2 ⟨rfl, hb2⟩
    go_wp2_with fail
    go_ret
    exact ⟨ret_val (by rw [HS.out]; rfl), hB.trans (hb2.mono hB.size)⟩
end
section
open Go.RowKit
/-- an item of a part's list: counts, values -/
abbrev It := List Int × List VT
structure PartT where
  next : Int
  begun : Int
  waits : List It
  spots : List It
  puts : List It
  letters : List It
  audits : List It
def catO (a b : Option (List UInt8)) : Option (List UInt8) :=
  match a with
  | none => none
  | some x => preB x b
/-- an item's bytes; so: its value may be none -/
def itE (so : Bool) (x : It) : Option (List UInt8) := catO (numsE x.1) (if so then someE (x.2.getD 0 noVT) else valsE x.2)
def itsE (so : Bool) : List It → Option (List UInt8)
  | [] => some []
  | x :: l => catO (itE so x) (itsE so l)
def listE (so : Bool) (l : List It) : Option (List UInt8) := catO (manyE l.length) (itsE so l)
def partE (p : PartT) : Option (List UInt8) :=
  preB magicB (catO (numsE [p.next, p.begun]) (catO (listE true p.waits) (catO (listE false p.spots) (catO (listE false p.puts) (catO (listE false p.letters) (catO (listE false p.audits) (some [])))))))
/-- no run of a list's first items is too long -/
def SzOk (so : Bool) (l : List It) : Prop := ∀ i q, itsE so (l.take i) = some q → q.length ≤ 17000000
theorem catO_none (b : Option (List UInt8)) : catO none b = none := rfl
theorem catO_some (a : List UInt8) (b : Option (List UInt8)) : catO (some a) b = preB a b := rfl
theorem catO_nr (a : Option (List UInt8)) : catO a none = none := by cases a <;> rfl
theorem catO_assoc (a b c : Option (List UInt8)) : catO (catO a b) c = catO a (catO b c) := by
  cases a with
  | none => rfl
  | some a =>
    cases b with
    | none => rfl
    | some b => cases c with
      | none => rfl
      | some c => simp [catO, preB]
theorem catO_preB (a : List UInt8) (b c : Option (List UInt8)) : catO (preB a b) c = preB a (catO b c) := catO_assoc (some a) b c
theorem itsE_app (so : Bool) : ∀ (a b : List It), itsE so (a ++ b) = catO (itsE so a) (itsE so b)
  | [], b => by rw [List.nil_append]; show _ = preB [] _; rw [preB_nil]
  | x :: a, b => by rw [List.cons_append, itsE, itsE, itsE_app so a b, catO_assoc]
theorem take_succ {l : List It} {i : Nat} (h : i < l.length) : l.take (i + 1) = l.take i ++ [l.getD i ([], [])] := by
  rw [List.take_add_one]
  simp [List.getD, h]
theorem its_step {so : Bool} {l : List It} {i : Nat} {q r : List UInt8} (h : i < l.length) (hq : itsE so (l.take i) = some q) (hr : itE so (l.getD i ([], [])) = some r) : itsE so (l.take (i + 1)) = some (q ++ r) := by
  rw [take_succ h, itsE_app, hq, itsE, hr]
  simp [catO, preB, itsE]
theorem its_no {so : Bool} {l : List It} {i : Nat} (h : i < l.length) (hr : itE so (l.getD i ([], [])) = none) : itsE so l = none := by
  have e : l = l.take i ++ (l.getD i ([], []) :: l.drop (i + 1)) := by
    have h1 : l.getD i ([], []) = l[i] := by simp [List.getD, h]
    rw [h1, ← List.drop_eq_getElem_cons h, List.take_append_drop]
  rw [e, itsE_app, itsE, hr, catO_none, catO_nr]
theorem its_all {so : Bool} {l : List It} {i : Nat} {q : List UInt8} (h : l.length ≤ i) (hq : itsE so (l.take i) = some q) : itsE so l = some q := by
  rwa [List.take_of_length_le h] at hq
/-- an item's cells: so many counts, so many values -/
def ItAt (u : World) (d k m : Nat) (x : It) (ds : Array Value) : Prop :=
  x.1.length = k ∧ x.2.length = m ∧ ∃ css : List (Array Value), css.length = m ∧ (∀ i, i < m → ValAt u d (x.2.getD i noVT) (css.getD i #[])) ∧ ds = (x.1.map (Value.int .i64) ++ (css.map Array.toList).flatten).toArray
/-- a list of items in memory, each of so many cells -/
def SlAt (u : World) (d sz k m : Nat) (v : Value) (l : List It) : Prop :=
  ∃ sp sc, v = .slice sp l.length sc ∧ l.length ≤ 140737488355328 ∧ ∀ i, i < l.length → ∃ g off, sp = some ⟨g, off, none⟩ ∧ g < u.heap.size ∧ ∃ ds, ItAt u d k m (l.getD i ([], [])) ds ∧ ∀ j, j < sz → u.cell? ⟨g, off + i * sz + j, none⟩ = ds[j]?
def PartAt (u : World) (d : Nat) (p : PartT) (cs : Array Value) : Prop :=
  ∃ a b c e f, cs = #[.int .i64 p.next, .int .i64 p.begun, a, b, c, e, f] ∧ SlAt u d 11 5 1 a p.waits ∧ SlAt u d 4 4 0 b p.spots ∧ SlAt u d 9 3 1 c p.puts ∧ SlAt u d 13 1 2 e p.letters ∧ SlAt u d 11 5 1 f p.audits
theorem ItAt.kept {u w : World} (hb : Below u.heap.size u w) {d k m : Nat} {x : It} {ds : Array Value} (h : ItAt u d k m x ds) : ItAt w d k m x ds := by
  obtain ⟨h1, h2, css, h3, h4, h5⟩ := h
  exact ⟨h1, h2, css, h3, fun i hi => (h4 i hi).kept hb, h5⟩
theorem SlAt.kept {u w : World} (hb : Below u.heap.size u w) {d sz k m : Nat} {v : Value} {l : List It} (h : SlAt u d sz k m v l) : SlAt w d sz k m v l := by
  obtain ⟨sp, sc, h1, h2, h3⟩ := h
  refine ⟨sp, sc, h1, h2, fun i hi => ?_⟩
  obtain ⟨g, off, h4, h5, ds, h6, h7⟩ := h3 i hi
  exact ⟨g, off, h4, Nat.lt_of_lt_of_le h5 hb.size, ds, h6.kept hb, fun j hj => (hb.cell (p := ⟨g, off + i * sz + j, none⟩) h5).trans (h7 j hj)⟩
theorem PartAt.kept {u w : World} (hb : Below u.heap.size u w) {d : Nat} {p : PartT} {cs : Array Value} (h : PartAt u d p cs) : PartAt w d p cs := by
  obtain ⟨a, b, c, e, f, h0, h1, h2, h3, h4, h5⟩ := h
  exact ⟨a, b, c, e, f, h0, h1.kept hb, h2.kept hb, h3.kept hb, h4.kept hb, h5.kept hb⟩
theorem len1 {α : Type} {l : List α} (h : l.length = 1) : ∃ a, l = [a] := by
  match l, h with
  | [a], _ => exact ⟨a, rfl⟩
theorem len2 {α : Type} {l : List α} (h : l.length = 2) : ∃ a b, l = [a, b] := by
  match l, h with
  | [a, b], _ => exact ⟨a, b, rfl⟩
theorem len3 {α : Type} {l : List α} (h : l.length = 3) : ∃ a b c, l = [a, b, c] := by
  match l, h with
  | [a, b, c], _ => exact ⟨a, b, c, rfl⟩
theorem len4 {α : Type} {l : List α} (h : l.length = 4) : ∃ a b c d, l = [a, b, c, d] := by
  match l, h with
  | [a, b, c, d], _ => exact ⟨a, b, c, d, rfl⟩
theorem len5 {α : Type} {l : List α} (h : l.length = 5) : ∃ a b c d e, l = [a, b, c, d, e] := by
  match l, h with
  | [a, b, c, d, e], _ => exact ⟨a, b, c, d, e, rfl⟩
theorem ItAt.open51 {u : World} {d : Nat} {x : It} {ds : Array Value} (h : ItAt u d 5 1 x ds) : ∃ a0 a1 a2 a3 a4 v pp pc p cap, x = ([a0, a1, a2, a3, a4], [v]) ∧
    ValAt u d v #[.int .i64 v.kind, .int .i64 v.num, .float .f64 v.flt, .string ⟨v.str.toArray⟩, .slice pp v.names.length pc, .slice p v.items.length cap] ∧
    ds = #[.int .i64 a0, .int .i64 a1, .int .i64 a2, .int .i64 a3, .int .i64 a4, .int .i64 v.kind, .int .i64 v.num, .float .f64 v.flt, .string ⟨v.str.toArray⟩, .slice pp v.names.length pc, .slice p v.items.length cap] := by
  obtain ⟨x1, x2⟩ := x
  obtain ⟨h1, h2, css, h3, h4, rfl⟩ := h
  obtain ⟨a0, a1, a2, a3, a4, rfl⟩ := len5 h1
  obtain ⟨v, rfl⟩ := len1 h2
  obtain ⟨cs, rfl⟩ := len1 h3
  have hv := h4 0 (by omega)
  obtain ⟨pp, pc, p, cap, hc⟩ := hv.sixS
  have hc : cs = _ := hc
  subst hc
  exact ⟨a0, a1, a2, a3, a4, v, pp, pc, p, cap, rfl, hv, rfl⟩
theorem ItAt.open40 {u : World} {d : Nat} {x : It} {ds : Array Value} (h : ItAt u d 4 0 x ds) : ∃ a0 a1 a2 a3, x = ([a0, a1, a2, a3], []) ∧ ds = #[.int .i64 a0, .int .i64 a1, .int .i64 a2, .int .i64 a3] := by
  obtain ⟨x1, x2⟩ := x
  obtain ⟨h1, h2, css, h3, h4, rfl⟩ := h
  obtain ⟨a0, a1, a2, a3, rfl⟩ := len4 h1
  have := List.length_eq_zero_iff.1 h2
  have h3 := List.length_eq_zero_iff.1 h3
  dsimp only at this
  subst this; subst h3
  exact ⟨a0, a1, a2, a3, rfl, rfl⟩
theorem ItAt.open31 {u : World} {d : Nat} {x : It} {ds : Array Value} (h : ItAt u d 3 1 x ds) : ∃ a0 a1 a2 v pp pc p cap, x = ([a0, a1, a2], [v]) ∧
    ValAt u d v #[.int .i64 v.kind, .int .i64 v.num, .float .f64 v.flt, .string ⟨v.str.toArray⟩, .slice pp v.names.length pc, .slice p v.items.length cap] ∧
    ds = #[.int .i64 a0, .int .i64 a1, .int .i64 a2, .int .i64 v.kind, .int .i64 v.num, .float .f64 v.flt, .string ⟨v.str.toArray⟩, .slice pp v.names.length pc, .slice p v.items.length cap] := by
  obtain ⟨x1, x2⟩ := x
  obtain ⟨h1, h2, css, h3, h4, rfl⟩ := h
  obtain ⟨a0, a1, a2, rfl⟩ := len3 h1
  obtain ⟨v, rfl⟩ := len1 h2
  obtain ⟨cs, rfl⟩ := len1 h3
  have hv := h4 0 (by omega)
  obtain ⟨pp, pc, p, cap, hc⟩ := hv.sixS
  have hc : cs = _ := hc
  subst hc
  exact ⟨a0, a1, a2, v, pp, pc, p, cap, rfl, hv, rfl⟩
theorem ItAt.open12 {u : World} {d : Nat} {x : It} {ds : Array Value} (h : ItAt u d 1 2 x ds) : ∃ a0 v pp pc p cap v2 pp2 pc2 p2 cap2, x = ([a0], [v, v2]) ∧
    ValAt u d v #[.int .i64 v.kind, .int .i64 v.num, .float .f64 v.flt, .string ⟨v.str.toArray⟩, .slice pp v.names.length pc, .slice p v.items.length cap] ∧
    ValAt u d v2 #[.int .i64 v2.kind, .int .i64 v2.num, .float .f64 v2.flt, .string ⟨v2.str.toArray⟩, .slice pp2 v2.names.length pc2, .slice p2 v2.items.length cap2] ∧
    ds = #[.int .i64 a0, .int .i64 v.kind, .int .i64 v.num, .float .f64 v.flt, .string ⟨v.str.toArray⟩, .slice pp v.names.length pc, .slice p v.items.length cap, .int .i64 v2.kind, .int .i64 v2.num, .float .f64 v2.flt, .string ⟨v2.str.toArray⟩, .slice pp2 v2.names.length pc2, .slice p2 v2.items.length cap2] := by
  obtain ⟨x1, x2⟩ := x
  obtain ⟨h1, h2, css, h3, h4, rfl⟩ := h
  obtain ⟨a0, rfl⟩ := len1 h1
  obtain ⟨v, v2, rfl⟩ := len2 h2
  obtain ⟨cs, cs2, rfl⟩ := len2 h3
  have hv := h4 0 (by omega)
  have hv2 := h4 1 (by omega)
  obtain ⟨pp, pc, p, cap, hc⟩ := hv.sixS
  obtain ⟨pp2, pc2, p2, cap2, hc2⟩ := hv2.sixS
  have hc : cs = _ := hc
  have hc2 : cs2 = _ := hc2
  subst hc; subst hc2
  exact ⟨a0, v, pp, pc, p, cap, v2, pp2, pc2, p2, cap2, rfl, hv, hv2, rfl⟩
end
end Go.Proofs.YtnaamiecljinnaaGreat
