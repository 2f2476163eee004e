/-
  U6, U7, Gf in one text.
-/
import Derived.ArgAppend
import Derived.Below
import Derived.BigQuiet
import Derived.Deep.AppendLies
import Derived.Deep.Cut
import Derived.Deep.CutBlock
import Derived.Deep.DeepCutAuto
import Derived.Deep.QuietTactic
import Derived.Deep.RegionHeld3
import Derived.Deep.RegionLaw
import Derived.Deep.RegionWith
import Derived.Deep.Upon
import Derived.Defers
import Derived.Handy
import Derived.IntWalk
import Derived.Laws.Bits64b
import Derived.Laws.FloatBits
import Derived.Laws.OwnMore
import Derived.Lib.AtoiAll
import Derived.Lib.Builder
import Derived.Lib.Bytes
import Derived.Lib.ConvBytes
import Derived.Lib.FrozenHead2
import Derived.Lib.Hide
import Derived.Lib.IndexMore
import Derived.Lib.ItoaNum
import Derived.Lib.MinMax
import Derived.Lib.OthersKept
import Derived.Lib.ParseIntB
import Derived.Lib.UnsafeStr
import Derived.LoopTactic
import Derived.OneCell
import Derived.OwnWalk
import Derived.Recover
import Derived.RegionTactic
import Derived.Shelf.Abstract
import Derived.StillTailTactics
import Derived.Tactics
import Derived.Tactics2
import Derived.Test.YtnaamiecljinnaaGreatChecked
import Derived.WalkKit
import Derived.WalkLawsBesides
import Derived.WalkSpells
import Ieee.Arith
import Derived.Test.YtnaamiecljinnaaGreatS00
import Derived.Test.YtnaamiecljinnaaGreatS01
import Derived.Test.YtnaamiecljinnaaGreatS02
import Derived.Test.YtnaamiecljinnaaGreatS03
import Derived.Test.YtnaamiecljinnaaGreatS06
import Derived.Test.YtnaamiecljinnaaGreatS07
import Derived.Test.YtnaamiecljinnaaGreatS08
import Derived.Test.YtnaamiecljinnaaGreatS16
import Derived.Test.YtnaamiecljinnaaGreatS17
import Derived.Test.YtnaamiecljinnaaGreatS18
import Derived.Test.YtnaamiecljinnaaGreatS28
namespace Go.Proofs.YtnaamiecljinnaaGreat
section
open Go.RowKit
/-- an Out in its block: bytes so far, at most so many, or Bad -/
def OutAt (b k : Nat) (o : Option (List UInt8)) (w : World) : Prop :=
  ∃ (s : ByteArray) (bad : Bool), w.heap[b]? = some (.cells #[.string s, .bool bad] 80 (0, 0)) ∧ s.size ≤ k ∧ (∀ l, o = some l → bad = false ∧ l = s.data.toList) ∧ (o = none → bad = true)
theorem OutAt.below {b k : Nat} {o : Option (List UInt8)} {w w' : World} (h : OutAt b k o w) (hb : Below w.heap.size w w') : OutAt b k o w' := by
  obtain ⟨s, bad, h1, h2⟩ := h
  exact ⟨s, bad, (hb.block _ (lt_of_block h1)).trans h1, h2⟩
theorem OutAt.more {b k m : Nat} {o : Option (List UInt8)} {w : World} (h : OutAt b k o w) (hm : k ≤ m) : OutAt b m o w := by
  obtain ⟨s, bad, h1, h2, h3⟩ := h
  exact ⟨s, bad, h1, by omega, h3⟩
theorem OutAt.lt {b k : Nat} {o : Option (List UInt8)} {w : World} (h : OutAt b k o w) : b < w.heap.size := by
  obtain ⟨s, bad, h1, _⟩ := h
  exact lt_of_block h1
theorem OutAt.ne_of {b k g : Nat} {o : Option (List UInt8)} {w : World} {U : TypeId} {cs : Array Value} {fz : Nat × Nat} (h : OutAt b k o w) (hg : w.heap[g]? = some (.cells cs U fz)) (hU : U ≠ 80) : g ≠ b := by
  rintro rfl
  obtain ⟨s, bad, h1, _⟩ := h
  rw [hg] at h1; injection h1 with h1; injection h1 with _ h1; exact hU h1
theorem out_bad {w : World} {b k : Nat} {s : ByteArray} {bad : Bool} (h : w.heap[b]? = some (.cells #[.string s, .bool bad] 80 (0, 0))) (hs : s.size ≤ k) : OutAt b k none (w.setCell ⟨b, 1, none⟩ (.bool true)) :=
  ⟨s, true, heap_setN h 1 _, hs, (fun _ h => nomatch h), fun _ => rfl⟩
theorem out_put {w : World} {b k : Nat} {s t : ByteArray} {bad : Bool} {o : Option (List UInt8)} {q : List UInt8} (h : w.heap[b]? = some (.cells #[.string s, .bool bad] 80 (0, 0))) (hs : (s ++ t).size ≤ k) (h1 : ∀ l, o = some l → bad = false ∧ l = s.data.toList) (h2 : o = none → bad = true) (hq : q = t.data.toList) :
    OutAt b k (catO o (some q)) (w.setCell ⟨b, 0, none⟩ (.string (s ++ t))) :=
  ⟨s ++ t, bad, heap_setN h 0 _, hs, fun l hl => by
    cases o with
    | none => cases hl
    | some x =>
      obtain ⟨hb, hx⟩ := h1 x rfl
      have : x ++ q = l := by simpa [catO, preB] using hl
      exact ⟨hb, by rw [← this, hx, hq, cat_list]⟩, fun hn => by
    cases o with
    | none => exact h2 rfl
    | some x => cases hn⟩
theorem cat_size (a b : ByteArray) : (a ++ b).size = a.size + b.size := by
  have h : ∀ x : ByteArray, x.size = x.data.toList.length := fun x => by simp
  rw [h, h a, h b, cat_list, List.length_append]
theorem numsE_step {l : List Int} {i : Nat} (h : i < l.length) : numsE (l.drop i) = if inN (l.getD i 0) then preB (uintS (l.getD i 0).toNat) (numsE (l.drop (i + 1))) else none := by
  rw [numsE_drop h]
  congr 1
set_option maxRecDepth 100000 in
set_option maxHeartbeats 4000000 in
theorem onum_any (l : List Int) (n : Nat) (cs : Array Value) (hn : l.length = n) (hcs : (l.map (Value.int .i64)).toArray = cs) (hl : n ≤ 20) (g b k : Nat) (o : Option (List UInt8)) (hk : k ≤ 1000000000000) (w : World) (hb : OutAt b k o w)
    (hg : w.heap[g]? = some (.cells cs 3 (0, 0))) :
    Calls Tryz.prog 20 #[.pointer (some ⟨b, 0, none⟩), .slice (some ⟨g, 0, none⟩) n n] w fun e w' => e = .returned (.tuple #[]) ∧ OutAt b (k + 10 * n) (catO o (numsE l)) w' ∧ Fr [b] w w' := by
  subst hcs
  have hne : g ∉ [b] := by simpa using hb.ne_of hg (by decide)
  have HG := Lib.hid hg; clear hg
  have HN := Lib.hid hn; clear hn
  have HU := Lib.hid (fun n h w => rUint_any n h w)
  go_enter Tryz.func20, Tryz.ntmps20
  go_wp2_with fail
  go_loopw [4] (fun v wr => ∃ (i : Nat) (q : Option (List UInt8)), v = .int .i64 (i : Int) ∧ i ≤ n ∧ OutAt b (k + 10 * i) q wr ∧ Hid (catO o (numsE l) = catO q (numsE (l.drop i))) ∧ Fr [b] w wr) (fun v _ => n - (intOf v).toNat)
  case atStart => exact ⟨0, o, rfl, by omega, hb, by show _ = _; rw [List.drop_zero], Fr.refl _ _⟩
  case round =>
    clear hb
    obtain ⟨i, q, rfl, hi, hbd, hE, hf⟩ := hrel
    have hgr := hf.at HG.out hne
    obtain ⟨s, bad, hgb, hs, hq1, hq2⟩ := hbd
    have c0 : wr.cell? ⟨b, 0, none⟩ = some (.string s) := by rw [Lib.cell_of_heap hgb]; rfl
    have c1 : wr.cell? ⟨b, 1, none⟩ = some (.bool bad) := by rw [Lib.cell_of_heap hgb]; rfl
    have z0 : wr.frozen? ⟨b, 0, none⟩ = false := Lib.frozen_of_heap hgb 0
    have z1 : wr.frozen? ⟨b, 1, none⟩ = false := Lib.frozen_of_heap hgb 1
    have HGB := Lib.hid hgb
    by_cases hlt : i < n
    · have t0 : decide ((i : Int) < (n : Int)) = true := by simp; omega
      have hlen : i < l.length := by rw [HN.out]; exact hlt
      have x0 : wr.cell? ⟨g, i, none⟩ = some (.int .i64 (l.getD i 0)) := by
        rw [Lib.cell_of_heap hgr]; simp [List.getD, hlen]
      have b1 : (0 : Int) ≤ (i : Int) := by omega
      have b2 : (i : Int) < (n : Int) := by omega
      have hD := numsE_step hlen
      clear hgr hlen
      generalize l.getD i 0 = x at *
      have HQ1 := Lib.hid hq1; have HQ2 := Lib.hid hq2
      clear hq1 hq2
      by_cases hx1 : x < 0
      · have t1 : decide (x < 0) = true := decide_eq_true hx1
        have hin : inN x = false := by unfold inN; rw [decide_eq_false (by omega)]; rfl
        rw [hin, if_neg (by decide)] at hD
        have HD := Lib.hid hD
        clear hD hin hx1 hgb
        go_wp2_with fail
        refine bodyPost_ret (results_none rfl _ _ _) rfl ?_
        exact ⟨rfl, by rw [hE.out, HD.out, catO_nr]; exact out_bad HGB.out (by omega), hf.setCell _ (by simp) _⟩
      · have t1 : decide (x < 0) = false := decide_eq_false hx1
        by_cases hx2 : 2199023255552 < x
        · have t2 : decide (2199023255552 < x) = true := decide_eq_true hx2
          have hin : inN x = false := by unfold inN; rw [decide_eq_true (by omega), decide_eq_false (by omega)]; rfl
          rw [hin, if_neg (by decide)] at hD
          have HD := Lib.hid hD
          clear hD hin hx1 hx2 hgb
          go_wp2_with fail
          refine bodyPost_ret (results_none rfl _ _ _) rfl ?_
          exact ⟨rfl, by rw [hE.out, HD.out, catO_nr]; exact out_bad HGB.out (by omega), hf.setCell _ (by simp) _⟩
        · have t2 : decide (2199023255552 < x) = false := decide_eq_false hx2
          obtain ⟨m, rfl⟩ := Int.eq_ofNat_of_zero_le (show 0 ≤ x by omega)
          have hin : inN (m : Int) = true := by unfold inN; rw [decide_eq_true (by omega), decide_eq_true (by omega)]; rfl
          rw [hin, if_pos rfl, Int.toNat_natCast] at hD
          have hul := uintS_len m
          obtain ⟨S2, hS2⟩ : ∃ s, s = (⟨(uintS m).toArray⟩ : ByteArray) := ⟨_, rfl⟩
          have hz2 : S2.size = (uintS m).length := by rw [hS2]; show (uintS m).toArray.size = _; simp
          have hno : ¬ 9223372036854775807 < s.size + S2.size := by omega
          have hno2 : s.size + S2.size ≤ k + 10 * i + 10 := by omega
          have wk : IntKind.u64.wrap (m : Int) = (m : Int) := by rw [IntKind.wrap_u64]; omega
          have HUU := Lib.hid (fun w => (show Calls Tryz.prog 42 #[.int .u64 (m : Int)] w (Gives (.string S2) w) from by rw [hS2]; exact HU.out m (by omega) w))
          have HD := Lib.hid hD; have HS2 := Lib.hid hS2
          have HK := Lib.hid (fun x (h : Below wr.heap.size wr x) => (show x.cell? ⟨b, 0, none⟩ = some (.string s) ∧ x.frozen? ⟨b, 0, none⟩ = false ∧ x.cell? ⟨g, i, none⟩ = some (.int .i64 (m : Int)) from
            ⟨(h.cell (p := ⟨b, 0, none⟩) (lt_of_block hgb)).trans c0, (h.frozen (p := ⟨b, 0, none⟩) (lt_of_block hgb)).trans z0, (h.cell (p := ⟨g, i, none⟩) (lt_of_block (hf.at HG.out hne))).trans x0⟩))
          clear hD hin hx1 hx2 hS2 hz2 hul hgb
          go_wp2_with fail
          go_region_law ((go_simp; go_at_call 42; (with_reducible refine (HUU.out _).mono ?_); rintro e u1 ⟨rfl, hb1⟩; obtain ⟨k0, k1, k2⟩ := HK.out _ (undrew hb1); dsimp only))
          all_goals
            replace hb1 := undrew hb1
            have hgu := (hb1.block _ (lt_of_block HGB.out)).trans HGB.out
            have hFu := (hf.trans (Fr.of_below hb1)).setCell ⟨b, 0, none⟩ (by simp) (.string (s ++ S2))
            have hOu := out_put (k := k + 10 * (i + 1)) (q := uintS m) hgu (by rw [cat_size]; omega) HQ1.out HQ2.out (by rw [HS2.out])
            clear hgu hb1 hno hno2
            go_wp2_with fail
            go_roundw
            case rel => exact ⟨i + 1, _, by go_num, by omega, hOu, by show _ = _; rw [hE.out, HD.out, catO_assoc]; rfl, hFu⟩
            case measure => simp [intOf]; omega
    · have t0 : decide ((i : Int) < (n : Int)) = false := by simp; omega
      clear c0 c1 z0 z1 hgb
      go_wp2_with fail
      go_end0
      refine ⟨rfl, ?_, hf⟩
      rw [hE.out, List.drop_eq_nil_of_le (by rw [HN.out]; omega)]
      have e1 : catO q (numsE []) = q := by
        cases q with
        | none => rfl
        | some q => show some (q ++ []) = _; rw [List.append_nil]
      rw [e1]
      exact ⟨s, bad, HGB.out, by omega, hq1, hq2⟩
set_option maxRecDepth 100000 in
set_option maxHeartbeats 4000000 in
theorem omany_any (n : Int) (b k : Nat) (o : Option (List UInt8)) (hk : k ≤ 1000000000000) (w : World) (hb : OutAt b k o w) :
    Calls Tryz.prog 21 #[.pointer (some ⟨b, 0, none⟩), .int .i64 n] w fun e w' => e = .returned (.tuple #[]) ∧ OutAt b (k + 10) (catO o (manyE n)) w' ∧ Fr [b] w w' := by
  obtain ⟨s, bad, hg, hs, h1, h2⟩ := hb
  have hlt := lt_of_block hg
  have c0 : w.cell? ⟨b, 0, none⟩ = some (.string s) := by rw [Lib.cell_of_heap hg]; rfl
  have c1 : w.cell? ⟨b, 1, none⟩ = some (.bool bad) := by rw [Lib.cell_of_heap hg]; rfl
  have z0 : w.frozen? ⟨b, 0, none⟩ = false := Lib.frozen_of_heap hg 0
  have z1 : w.frozen? ⟨b, 1, none⟩ = false := Lib.frozen_of_heap hg 1
  have hmany : manyE n = if n ≤ 500 then numsE [n] else none := rfl
  have key : ∀ (bad' : Bool) (q : Option (List UInt8)), catO q (numsE [n]) = catO o (manyE n) → OutAt b k q (w.setCell ⟨b, 1, none⟩ (.bool bad')) → Calls Tryz.prog 20 #[.pointer (some ⟨b, 0, none⟩), .slice (some ⟨w.heap.size, 0, none⟩) 1 1] ((w.setCell ⟨b, 1, none⟩ (.bool bad')).alloc (.cells #[.int .i64 n] 3)) (fun e w' => e = .returned (.tuple #[]) ∧ OutAt b (k + 10) (catO o (manyE n)) w' ∧ Fr [b] w w') := by
    intro bad' q hq hO
    have hsz : (w.setCell ⟨b, 1, none⟩ (.bool bad')).heap.size = w.heap.size := by simp [World.setCell]
    have hA := hO.below ((Below.refl _ _).alloc (Nat.le_refl _) (.cells #[.int .i64 n] 3))
    have hgn := heap_alloc_new (w.setCell ⟨b, 1, none⟩ (.bool bad')) (.cells #[.int .i64 n] 3)
    rw [hsz] at hgn
    refine (onum_any [n] 1 #[.int .i64 n] rfl rfl (by omega) w.heap.size b k q hk _ hA hgn).mono ?_
    rintro e w' ⟨he, hO', hF'⟩
    rw [hq] at hO'
    exact ⟨he, hO', (((Fr.refl [b] w).setCell ⟨b, 1, none⟩ (by simp) (.bool bad')).alloc _).trans hF'⟩
  by_cases hn : n ≤ 500
  · have t0 : decide (500 < n) = false := by simp; omega
    rw [if_pos hn] at hmany
    have HC := Lib.hid (key bad o (by rw [hmany]) ⟨s, bad, heap_setN hg 1 _, hs, h1, h2⟩)
    clear key hmany hn h1 h2
    cases bad
    · go_enter Tryz.func21, Tryz.ntmps21
      go_wp2_with fail
      refine (HC.out).mono ?_; rintro e w2 ⟨rfl, hO, hF⟩
      go_wp2_with fail
      go_end0
      exact ⟨rfl, hO, hF⟩
    · go_enter Tryz.func21, Tryz.ntmps21
      go_wp2_with fail
      refine (HC.out).mono ?_; rintro e w2 ⟨rfl, hO, hF⟩
      go_wp2_with fail
      go_end0
      exact ⟨rfl, hO, hF⟩
  · have t0 : decide (500 < n) = true := by simp; omega
    rw [if_neg hn] at hmany
    have HC := Lib.hid (key true none (by rw [hmany, catO_nr]; rfl) (out_bad hg hs))
    clear key hmany hn h1 h2
    cases bad
    · go_enter Tryz.func21, Tryz.ntmps21
      go_wp2_with fail
      refine (HC.out).mono ?_; rintro e w2 ⟨rfl, hO, hF⟩
      go_wp2_with fail
      go_end0
      exact ⟨rfl, hO, hF⟩
    · go_enter Tryz.func21, Tryz.ntmps21
      go_wp2_with fail
      refine (HC.out).mono ?_; rintro e w2 ⟨rfl, hO, hF⟩
      go_wp2_with fail
      go_end0
      exact ⟨rfl, hO, hF⟩
set_option maxRecDepth 100000 in
set_option maxHeartbeats 4000000 in
theorem oval_any (d : Nat) (v : VT) (cs : Array Value) (b k : Nat) (o : Option (List UInt8)) (hk : k ≤ 1000000000000) (w : World) (hb : OutAt b k o w) (hv : ValAt w d v cs) :
    Calls Tryz.prog 23 #[.pointer (some ⟨b, 0, none⟩), .agg cs] w fun e w' => e = .returned (.tuple #[]) ∧ OutAt b (k + 60000) (catO o (valsE [v])) w' ∧ Fr [b] w w' := by
  obtain ⟨pp, pc, p, cap, rfl⟩ := hv.sixS
  have hB : Below w.heap.size w (w.alloc (.cells #[.int .i64 v.kind, .int .i64 v.num, .float .f64 v.flt, .string ⟨v.str.toArray⟩, .slice pp v.names.length pc, .slice p v.items.length cap] 57)) := (Below.refl _ _).alloc (Nat.le_refl _) _
  have hnA : (w.alloc (.cells #[.int .i64 v.kind, .int .i64 v.num, .float .f64 v.flt, .string ⟨v.str.toArray⟩, .slice pp v.names.length pc, .slice p v.items.length cap] 57)).heap[w.heap.size]? = some (.cells #[.int .i64 v.kind, .int .i64 v.num, .float .f64 v.flt, .string ⟨v.str.toArray⟩, .slice pp v.names.length pc, .slice p v.items.length cap] 57 (0, 0)) := heap_alloc_new w _
  have HR := Lib.hid (rRight_any d v _ _ (hv.kept hB))
  have HBl := Lib.hid (fun x (h : Below (w.alloc (.cells #[.int .i64 v.kind, .int .i64 v.num, .float .f64 v.flt, .string ⟨v.str.toArray⟩, .slice pp v.names.length pc, .slice p v.items.length cap] 57)).heap.size (w.alloc (.cells #[.int .i64 v.kind, .int .i64 v.num, .float .f64 v.flt, .string ⟨v.str.toArray⟩, .slice pp v.names.length pc, .slice p v.items.length cap] 57)) x) => (h.block _ (lt_of_block hnA)).trans hnA)
  have hE : valsE [v] = if rightB v then preB (encV v) (valsE []) else none := rfl
  have HV := fun x (h : Below (w.alloc (.cells #[.int .i64 v.kind, .int .i64 v.num, .float .f64 v.flt, .string ⟨v.str.toArray⟩, .slice pp v.names.length pc, .slice p v.items.length cap] 57)).heap.size (w.alloc (.cells #[.int .i64 v.kind, .int .i64 v.num, .float .f64 v.flt, .string ⟨v.str.toArray⟩, .slice pp v.names.length pc, .slice p v.items.length cap] 57)) x) (hr : rightB v = true) =>
    (show (encV v).length ≤ 60000 ∧ Calls Tryz.prog 45 #[.agg #[.int .i64 v.kind, .int .i64 v.num, .float .f64 v.flt, .string ⟨v.str.toArray⟩, .slice pp v.names.length pc, .slice p v.items.length cap]] x (Gives (.string ⟨(encV v).toArray⟩) x) from
      ⟨rightB_len hr, rEnc_any d v _ 12 x (hv.kept (hB.trans (h.mono hB.size))) ((rightB_iff v).1 hr).2 (by have := rightB_len hr; omega)⟩)
  have hO0 := hb.below hB
  have HO := Lib.hid (fun x (h : Below (w.alloc (.cells #[.int .i64 v.kind, .int .i64 v.num, .float .f64 v.flt, .string ⟨v.str.toArray⟩, .slice pp v.names.length pc, .slice p v.items.length cap] 57)).heap.size (w.alloc (.cells #[.int .i64 v.kind, .int .i64 v.num, .float .f64 v.flt, .string ⟨v.str.toArray⟩, .slice pp v.names.length pc, .slice p v.items.length cap] 57)) x) => hO0.below h)
  have hbl : b < w.heap.size := hb.lt
  clear hv hb hnA hO0
  generalize rightB v = rb at *
  generalize encV v = q at *
  generalize hVE : valsE [v] = ve at *
  clear hVE
  generalize (⟨v.str.toArray⟩ : ByteArray) = S at *
  generalize v.kind = K at *
  generalize v.num = X at *
  generalize v.flt = fa at *
  generalize v.names.length = M at *
  generalize v.items.length = N at *
  cases rb
  · have HE := Lib.hid (show ve = none from hE)
    clear hE HV
    go_enter Tryz.func23, Tryz.ntmps23
    go_wp2_with fail
    refine (HR.out).mono ?_; rintro e w2 ⟨rfl, hb2⟩
    obtain ⟨s, bad, hg, hs, h1, h2⟩ := HO.out _ hb2
    have c0 : w2.cell? ⟨b, 0, none⟩ = some (.string s) := by rw [Lib.cell_of_heap hg]; rfl
    have c1 : w2.cell? ⟨b, 1, none⟩ = some (.bool bad) := by rw [Lib.cell_of_heap hg]; rfl
    have z0 : w2.frozen? ⟨b, 0, none⟩ = false := Lib.frozen_of_heap hg 0
    have z1 : w2.frozen? ⟨b, 1, none⟩ = false := Lib.frozen_of_heap hg 1
    have HG := Lib.hid hg
    clear hg h1 h2
    go_wp2_with fail
    refine bodyPost_ret (results_none rfl _ _ _) rfl ?_
    exact ⟨rfl, by rw [HE.out, catO_nr]; exact (out_bad HG.out hs).more (by omega), (Fr.of_below (hB.trans (hb2.mono hB.size))).setCell _ (by simp) _⟩
  · have HE := Lib.hid (show ve = some q from by rw [hE, if_pos rfl]; show some (q ++ []) = _; rw [List.append_nil])
    have hql := (HV _ (Below.refl _ _) rfl).1
    obtain ⟨S2, hS2⟩ : ∃ s, s = (⟨q.toArray⟩ : ByteArray) := ⟨_, rfl⟩
    have hz2 : S2.size = q.length := by rw [hS2]; show q.toArray.size = _; simp
    have HC := Lib.hid (fun x (h : Below (w.alloc (.cells #[.int .i64 K, .int .i64 X, .float .f64 fa, .string S, .slice pp M pc, .slice p N cap] 57)).heap.size (w.alloc (.cells #[.int .i64 K, .int .i64 X, .float .f64 fa, .string S, .slice pp M pc, .slice p N cap] 57)) x) => (show Calls Tryz.prog 45 #[.agg #[.int .i64 K, .int .i64 X, .float .f64 fa, .string S, .slice pp M pc, .slice p N cap]] x (Gives (.string S2) x) from by rw [hS2]; exact (HV x h rfl).2))
    have HS2 := Lib.hid hS2
    clear hE HV hS2
    generalize hgh : w.heap.size = H at *
    have HH := Lib.hid hgh; clear hgh
    go_enter Tryz.func23, Tryz.ntmps23
    go_wp2_with fail
    rw [HH.out]
    refine (HR.out).mono ?_; rintro e w2 ⟨rfl, hb2⟩
    have hgv := HBl.out _ hb2
    obtain ⟨s, bad, hg, hs, h1, h2⟩ := HO.out _ hb2
    have hno : ¬ 9223372036854775807 < s.size + S2.size := by omega
    have hno2 : s.size + S2.size ≤ k + 60000 := by omega
    have c0 : w2.cell? ⟨b, 0, none⟩ = some (.string s) := by rw [Lib.cell_of_heap hg]; rfl
    have c1 : w2.cell? ⟨b, 1, none⟩ = some (.bool bad) := by rw [Lib.cell_of_heap hg]; rfl
    have z0 : w2.frozen? ⟨b, 0, none⟩ = false := Lib.frozen_of_heap hg 0
    have z1 : w2.frozen? ⟨b, 1, none⟩ = false := Lib.frozen_of_heap hg 1
    have a0 : w2.cell? ⟨H, 0, none⟩ = some (.int .i64 K) := by rw [Lib.cell_of_heap hgv]; rfl
    have a1 : w2.cell? ⟨H, 1, none⟩ = some (.int .i64 X) := by rw [Lib.cell_of_heap hgv]; rfl
    have a2 : w2.cell? ⟨H, 2, none⟩ = some (.float .f64 fa) := by rw [Lib.cell_of_heap hgv]; rfl
    have a3 : w2.cell? ⟨H, 3, none⟩ = some (.string S) := by rw [Lib.cell_of_heap hgv]; rfl
    have a4 : w2.cell? ⟨H, 4, none⟩ = some (.slice pp M pc) := by rw [Lib.cell_of_heap hgv]; rfl
    have a5 : w2.cell? ⟨H, 5, none⟩ = some (.slice p N cap) := by rw [Lib.cell_of_heap hgv]; rfl
    have HG := Lib.hid hg; have HQ1 := Lib.hid h1; have HQ2 := Lib.hid h2
    have HK := Lib.hid (fun x (h : Below w2.heap.size w2 x) => (show x.cell? ⟨b, 0, none⟩ = some (.string s) ∧ x.frozen? ⟨b, 0, none⟩ = false ∧ x.cell? ⟨H, 0, none⟩ = some (.int .i64 K) ∧ x.cell? ⟨H, 1, none⟩ = some (.int .i64 X) ∧ x.cell? ⟨H, 2, none⟩ = some (.float .f64 fa) ∧ x.cell? ⟨H, 3, none⟩ = some (.string S) ∧ x.cell? ⟨H, 4, none⟩ = some (.slice pp M pc) ∧ x.cell? ⟨H, 5, none⟩ = some (.slice p N cap) from
      ⟨(h.cell (p := ⟨b, 0, none⟩) (lt_of_block hg)).trans c0, (h.frozen (p := ⟨b, 0, none⟩) (lt_of_block hg)).trans z0, (h.cell (p := ⟨H, 0, none⟩) (lt_of_block hgv)).trans a0, (h.cell (p := ⟨H, 1, none⟩) (lt_of_block hgv)).trans a1, (h.cell (p := ⟨H, 2, none⟩) (lt_of_block hgv)).trans a2, (h.cell (p := ⟨H, 3, none⟩) (lt_of_block hgv)).trans a3, (h.cell (p := ⟨H, 4, none⟩) (lt_of_block hgv)).trans a4, (h.cell (p := ⟨H, 5, none⟩) (lt_of_block hgv)).trans a5⟩))
    have hb3 := hb2.trans ((Below.refl w2.heap.size w2).drew.mono hb2.size)
    have HCw := Lib.hid (HC.out _ hb3)
    have HB2 := Lib.hid hb2
    clear hg hgv h1 h2 hz2 hql hs hb2 hb3
    go_wp2_with fail
    go_region_law ((go_simp; go_at_call 45; (with_reducible refine (HCw.out).mono ?_); rintro e u1 ⟨rfl, hb1⟩; obtain ⟨k0, k1, k2, k3, k4, k5, k6, k7⟩ := HK.out _ (undrew hb1); dsimp only))
    all_goals
      replace hb1 := undrew hb1
      have hgu := (hb1.block _ (lt_of_block HG.out)).trans HG.out
      have hOu := out_put (k := k + 60000) (q := q) hgu (by rw [cat_size]; omega) HQ1.out HQ2.out (by rw [HS2.out])
      have hFu := (Fr.of_below (l := [b]) (show Below w.heap.size w u1 by rw [HH.out]; exact hB.trans ((below_tr' HB2.out hb1).mono (by have := hB.size; rw [HH.out] at this; exact this)))).setCell ⟨b, 0, none⟩ (by simp) (.string (s ++ S2))
      clear hgu hb1 hno hno2
      go_wp2_with fail
      go_end0
      exact ⟨rfl, by rw [HE.out]; exact hOu, hFu⟩
end
section
open Go.RowKit
def OutIs (s : ByteArray) (bad : Bool) (o : Option (List UInt8)) : Prop := (∀ l, o = some l → bad = false ∧ l = s.data.toList) ∧ (o = none → bad = true)
theorem out_put1 {w : World} {b k : Nat} {s : ByteArray} {bad : Bool} {o : Option (List UInt8)} {c : UInt8} (h : w.heap[b]? = some (.cells #[.string s, .bool bad] 80 (0, 0))) (hs : s.size + 1 ≤ k) (h1 : OutIs s bad o) :
    OutAt b k (catO o (some [c])) (w.setCell ⟨b, 0, none⟩ (.string (s ++ ⟨#[c]⟩))) :=
  out_put h (by rw [cat_size]; exact hs) h1.1 h1.2 rfl
set_option maxRecDepth 100000 in
set_option maxHeartbeats 4000000 in
theorem osome_any (d : Nat) (v : VT) (cs : Array Value) (b k : Nat) (o : Option (List UInt8)) (hk : k ≤ 900000000000) (u w : World) (hub : u.heap.size ≤ b) (huw : Below u.heap.size u w) (hb : OutAt b k o w) (hvu : ValAt u (d + 1) v cs) :
    Calls Tryz.prog 22 #[.pointer (some ⟨b, 0, none⟩), .agg cs] w fun e w' => e = .returned (.tuple #[]) ∧ OutAt b (k + 60001) (catO o (someE v)) w' ∧ Fr [b] w w' := by
  have hv := hvu.kept huw
  obtain ⟨pp, pc, p, cap, rfl⟩ := hv.sixS
  have hB : Below w.heap.size w (w.alloc (.cells #[.int .i64 v.kind, .int .i64 v.num, .float .f64 v.flt, .string ⟨v.str.toArray⟩, .slice pp v.names.length pc, .slice p v.items.length cap] 57)) := (Below.refl _ _).alloc (Nat.le_refl _) _
  have hnA : (w.alloc (.cells #[.int .i64 v.kind, .int .i64 v.num, .float .f64 v.flt, .string ⟨v.str.toArray⟩, .slice pp v.names.length pc, .slice p v.items.length cap] 57)).heap[w.heap.size]? = some (.cells #[.int .i64 v.kind, .int .i64 v.num, .float .f64 v.flt, .string ⟨v.str.toArray⟩, .slice pp v.names.length pc, .slice p v.items.length cap] 57 (0, 0)) := heap_alloc_new w _
  have hS : someE v = if v.kind = 0 then (if bareV v false false false false then some [0] else none) else preB [1] (valsE [v]) := rfl
  have hO := hb.below hB
  have hbl := hb.lt
  have hneb : b ≠ w.heap.size := by omega
  by_cases hk0 : v.kind = 0
  · rw [if_pos hk0] at hS
    have tk : (v.kind == 0) = true := by rw [hk0]; rfl
    have HR := Lib.hid (rRight8_x (d + 1) v _ _ hk0 _ (hv.kept hB))
    obtain ⟨s, bad, hg, hs, h1, h2⟩ := hO
    have c0 : (w.alloc (.cells #[.int .i64 v.kind, .int .i64 v.num, .float .f64 v.flt, .string ⟨v.str.toArray⟩, .slice pp v.names.length pc, .slice p v.items.length cap] 57)).cell? ⟨b, 0, none⟩ = some (.string s) := by rw [Lib.cell_of_heap hg]; rfl
    have c1 : (w.alloc (.cells #[.int .i64 v.kind, .int .i64 v.num, .float .f64 v.flt, .string ⟨v.str.toArray⟩, .slice pp v.names.length pc, .slice p v.items.length cap] 57)).cell? ⟨b, 1, none⟩ = some (.bool bad) := by rw [Lib.cell_of_heap hg]; rfl
    have z0 : (w.alloc (.cells #[.int .i64 v.kind, .int .i64 v.num, .float .f64 v.flt, .string ⟨v.str.toArray⟩, .slice pp v.names.length pc, .slice p v.items.length cap] 57)).frozen? ⟨b, 0, none⟩ = false := Lib.frozen_of_heap hg 0
    have z1 : (w.alloc (.cells #[.int .i64 v.kind, .int .i64 v.num, .float .f64 v.flt, .string ⟨v.str.toArray⟩, .slice pp v.names.length pc, .slice p v.items.length cap] 57)).frozen? ⟨b, 1, none⟩ = false := Lib.frozen_of_heap hg 1
    clear hv hvu huw hb
    generalize bareV v false false false false = bb at *
    generalize hVE : someE v = ve at *
    clear hVE hk0
    generalize (⟨v.str.toArray⟩ : ByteArray) = S at *
    generalize v.kind = K at *
    generalize v.num = X at *
    generalize v.flt = fa at *
    generalize v.names.length = M at *
    generalize v.items.length = N at *
    cases bad
    · cases bb
      · have HS := Lib.hid (show ve = none from hS)
        have HG := Lib.hid hg; have HB := Lib.hid hB
        clear hS hg h1 h2 hB
        go_enter Tryz.func22, Tryz.ntmps22
        go_upto_region 1 with (fail)
        generalize w.alloc (.cells #[.int .i64 K, .int .i64 X, .float .f64 fa, .string S, .slice pp M pc, .slice p N cap] 57) = W1 at *
        have a0 : W1.cell? ⟨w.heap.size, 0, none⟩ = some (.int .i64 K) := by rw [Lib.cell_of_heap hnA]; rfl
        have a1 : W1.cell? ⟨w.heap.size, 1, none⟩ = some (.int .i64 X) := by rw [Lib.cell_of_heap hnA]; rfl
        have a2 : W1.cell? ⟨w.heap.size, 2, none⟩ = some (.float .f64 fa) := by rw [Lib.cell_of_heap hnA]; rfl
        have a3 : W1.cell? ⟨w.heap.size, 3, none⟩ = some (.string S) := by rw [Lib.cell_of_heap hnA]; rfl
        have a4 : W1.cell? ⟨w.heap.size, 4, none⟩ = some (.slice pp M pc) := by rw [Lib.cell_of_heap hnA]; rfl
        have a5 : W1.cell? ⟨w.heap.size, 5, none⟩ = some (.slice p N cap) := by rw [Lib.cell_of_heap hnA]; rfl
        clear hnA
        go_wp2_with fail
        refine (HR.out).mono ?_; rintro e w2 ⟨rfl, hb2⟩
        have hg2 := (hb2.block _ (lt_of_block HG.out)).trans HG.out
        clear c0 c1 z0 z1
        have c0 : w2.cell? ⟨b, 0, none⟩ = some (.string s) := by rw [Lib.cell_of_heap hg2]; rfl
        have c1 : w2.cell? ⟨b, 1, none⟩ = some (.bool false) := by rw [Lib.cell_of_heap hg2]; rfl
        have z0 : w2.frozen? ⟨b, 0, none⟩ = false := Lib.frozen_of_heap hg2 0
        have z1 : w2.frozen? ⟨b, 1, none⟩ = false := Lib.frozen_of_heap hg2 1
        have hF := ((Fr.of_below (l := [b]) (HB.out.trans (hb2.mono HB.out.size))).setCell ⟨b, 1, none⟩ (by simp) (.bool true)).setCell ⟨b, 0, none⟩ (by simp) (.string (s ++ ⟨#[0]⟩))
        have hno : ¬ 9223372036854775807 < s.size + 1 := by omega
        have hOe := out_put1 (c := 0) (k := k + 60001) (o := none) (heap_setN hg2 1 (.bool true)) (by omega) ⟨(fun _ h => nomatch h), fun _ => rfl⟩
        clear hg2
        go_wp2_with fail
        refine bodyPost_ret (results_none rfl _ _ _) rfl ?_
        exact ⟨rfl, by rw [HS.out, catO_nr]; exact hOe, hF⟩
      · have HS := Lib.hid (show ve = some [0] from hS)
        have HG := Lib.hid hg; have HB := Lib.hid hB; have H1 : OutIs s false o := ⟨h1, h2⟩
        clear hS hg h1 h2 hB
        go_enter Tryz.func22, Tryz.ntmps22
        go_upto_region 1 with (fail)
        generalize w.alloc (.cells #[.int .i64 K, .int .i64 X, .float .f64 fa, .string S, .slice pp M pc, .slice p N cap] 57) = W1 at *
        have a0 : W1.cell? ⟨w.heap.size, 0, none⟩ = some (.int .i64 K) := by rw [Lib.cell_of_heap hnA]; rfl
        have a1 : W1.cell? ⟨w.heap.size, 1, none⟩ = some (.int .i64 X) := by rw [Lib.cell_of_heap hnA]; rfl
        have a2 : W1.cell? ⟨w.heap.size, 2, none⟩ = some (.float .f64 fa) := by rw [Lib.cell_of_heap hnA]; rfl
        have a3 : W1.cell? ⟨w.heap.size, 3, none⟩ = some (.string S) := by rw [Lib.cell_of_heap hnA]; rfl
        have a4 : W1.cell? ⟨w.heap.size, 4, none⟩ = some (.slice pp M pc) := by rw [Lib.cell_of_heap hnA]; rfl
        have a5 : W1.cell? ⟨w.heap.size, 5, none⟩ = some (.slice p N cap) := by rw [Lib.cell_of_heap hnA]; rfl
        clear hnA
        go_wp2_with fail
        refine (HR.out).mono ?_; rintro e w2 ⟨rfl, hb2⟩
        have hg2 := (hb2.block _ (lt_of_block HG.out)).trans HG.out
        clear c0 c1 z0 z1
        have c0 : w2.cell? ⟨b, 0, none⟩ = some (.string s) := by rw [Lib.cell_of_heap hg2]; rfl
        have c1 : w2.cell? ⟨b, 1, none⟩ = some (.bool false) := by rw [Lib.cell_of_heap hg2]; rfl
        have z0 : w2.frozen? ⟨b, 0, none⟩ = false := Lib.frozen_of_heap hg2 0
        have z1 : w2.frozen? ⟨b, 1, none⟩ = false := Lib.frozen_of_heap hg2 1
        have hF := ((Fr.of_below (l := [b]) (HB.out.trans (hb2.mono HB.out.size))).setCell ⟨b, 1, none⟩ (by simp) (.bool false)).setCell ⟨b, 0, none⟩ (by simp) (.string (s ++ ⟨#[0]⟩))
        have hno : ¬ 9223372036854775807 < s.size + 1 := by omega
        have hOe := out_put1 (c := 0) (k := k + 60001) (heap_setN hg2 1 (.bool false)) (by omega) H1
        clear hg2
        go_wp2_with fail
        refine bodyPost_ret (results_none rfl _ _ _) rfl ?_
        exact ⟨rfl, by rw [HS.out]; exact hOe, hF⟩
    · have ho : o = none := by
        cases o with
        | none => rfl
        | some l => have := (h1 l rfl).1; cases this
      subst ho
      have HG := Lib.hid hg; have HB := Lib.hid hB
      have hF := ((Fr.of_below (l := [b]) hB).setCell ⟨b, 1, none⟩ (by simp) (.bool true)).setCell ⟨b, 0, none⟩ (by simp) (.string (s ++ ⟨#[0]⟩))
      have hno : ¬ 9223372036854775807 < s.size + 1 := by omega
      have hOe := out_put1 (c := 0) (k := k + 60001) (o := none) (heap_setN hg 1 (.bool true)) (by omega) ⟨(fun _ h => nomatch h), fun _ => rfl⟩
      clear hS hg h1 h2 hB HR
      go_enter Tryz.func22, Tryz.ntmps22
      go_upto_region 1 with (fail)
      generalize w.alloc (.cells #[.int .i64 K, .int .i64 X, .float .f64 fa, .string S, .slice pp M pc, .slice p N cap] 57) = W1 at *
      have a0 : W1.cell? ⟨w.heap.size, 0, none⟩ = some (.int .i64 K) := by rw [Lib.cell_of_heap hnA]; rfl
      have a1 : W1.cell? ⟨w.heap.size, 1, none⟩ = some (.int .i64 X) := by rw [Lib.cell_of_heap hnA]; rfl
      have a2 : W1.cell? ⟨w.heap.size, 2, none⟩ = some (.float .f64 fa) := by rw [Lib.cell_of_heap hnA]; rfl
      have a3 : W1.cell? ⟨w.heap.size, 3, none⟩ = some (.string S) := by rw [Lib.cell_of_heap hnA]; rfl
      have a4 : W1.cell? ⟨w.heap.size, 4, none⟩ = some (.slice pp M pc) := by rw [Lib.cell_of_heap hnA]; rfl
      have a5 : W1.cell? ⟨w.heap.size, 5, none⟩ = some (.slice p N cap) := by rw [Lib.cell_of_heap hnA]; rfl
      clear hnA
      go_wp2_with fail
      refine bodyPost_ret (results_none rfl _ _ _) rfl ?_
      exact ⟨rfl, hOe, hF⟩
  · rw [if_neg hk0] at hS
    have tk : (v.kind == 0) = false := beq_eq_false_iff_ne.2 hk0
    obtain ⟨s, bad, hg, hs, h1, h2⟩ := hO
    have c0 : (w.alloc (.cells #[.int .i64 v.kind, .int .i64 v.num, .float .f64 v.flt, .string ⟨v.str.toArray⟩, .slice pp v.names.length pc, .slice p v.items.length cap] 57)).cell? ⟨b, 0, none⟩ = some (.string s) := by rw [Lib.cell_of_heap hg]; rfl
    have c1 : (w.alloc (.cells #[.int .i64 v.kind, .int .i64 v.num, .float .f64 v.flt, .string ⟨v.str.toArray⟩, .slice pp v.names.length pc, .slice p v.items.length cap] 57)).cell? ⟨b, 1, none⟩ = some (.bool bad) := by rw [Lib.cell_of_heap hg]; rfl
    have z0 : (w.alloc (.cells #[.int .i64 v.kind, .int .i64 v.num, .float .f64 v.flt, .string ⟨v.str.toArray⟩, .slice pp v.names.length pc, .slice p v.items.length cap] 57)).frozen? ⟨b, 0, none⟩ = false := Lib.frozen_of_heap hg 0
    have z1 : (w.alloc (.cells #[.int .i64 v.kind, .int .i64 v.num, .float .f64 v.flt, .string ⟨v.str.toArray⟩, .slice pp v.names.length pc, .slice p v.items.length cap] 57)).frozen? ⟨b, 1, none⟩ = false := Lib.frozen_of_heap hg 1
    have hno : ¬ 9223372036854775807 < s.size + 1 := by omega
    have hO1 := out_put1 (c := 1) (k := k + 1) hg (by omega) ⟨h1, h2⟩
    have hf1 := (Fr.refl [b] (w.alloc (.cells #[.int .i64 v.kind, .int .i64 v.num, .float .f64 v.flt, .string ⟨v.str.toArray⟩, .slice pp v.names.length pc, .slice p v.items.length cap] 57))).setCell ⟨b, 0, none⟩ (by simp) (.string (s ++ ⟨#[1]⟩))
    have hnB := hf1.at hnA (by simpa using Ne.symm hneb)
    have hfb := (Fr.of_below (l := [b]) hB).trans hf1
    have hvk : ValAt ((w.alloc (.cells #[.int .i64 v.kind, .int .i64 v.num, .float .f64 v.flt, .string ⟨v.str.toArray⟩, .slice pp v.names.length pc, .slice p v.items.length cap] 57)).setCell ⟨b, 0, none⟩ (.string (s ++ ⟨#[1]⟩))) (d + 1) v #[.int .i64 v.kind, .int .i64 v.num, .float .f64 v.flt, .string ⟨v.str.toArray⟩, .slice pp v.names.length pc, .slice p v.items.length cap] := hvu.kept (huw.trans (hfb.below huw.size (by simpa using hub)))
    have HC := Lib.hid (oval_any (d + 1) v _ b (k + 1) _ (by omega) _ hO1 hvk)
    have HS := Lib.hid hS
    clear hS hv hvu huw hb hvk hO1 hg h1 h2 hf1 hk0
    generalize hVE : valsE [v] = ve at *
    generalize hVS : someE v = se at *
    clear hVE hVS
    generalize (⟨v.str.toArray⟩ : ByteArray) = S at *
    generalize v.kind = K at *
    generalize v.num = X at *
    generalize v.flt = fa at *
    generalize v.names.length = M at *
    generalize v.items.length = N at *
    have a0 : ((w.alloc (.cells #[.int .i64 K, .int .i64 X, .float .f64 fa, .string S, .slice pp M pc, .slice p N cap] 57)).setCell ⟨b, 0, none⟩ (.string (s ++ ⟨#[1]⟩))).cell? ⟨w.heap.size, 0, none⟩ = some (.int .i64 K) := by rw [Lib.cell_of_heap hnB]; rfl
    have a1 : ((w.alloc (.cells #[.int .i64 K, .int .i64 X, .float .f64 fa, .string S, .slice pp M pc, .slice p N cap] 57)).setCell ⟨b, 0, none⟩ (.string (s ++ ⟨#[1]⟩))).cell? ⟨w.heap.size, 1, none⟩ = some (.int .i64 X) := by rw [Lib.cell_of_heap hnB]; rfl
    have a2 : ((w.alloc (.cells #[.int .i64 K, .int .i64 X, .float .f64 fa, .string S, .slice pp M pc, .slice p N cap] 57)).setCell ⟨b, 0, none⟩ (.string (s ++ ⟨#[1]⟩))).cell? ⟨w.heap.size, 2, none⟩ = some (.float .f64 fa) := by rw [Lib.cell_of_heap hnB]; rfl
    have a3 : ((w.alloc (.cells #[.int .i64 K, .int .i64 X, .float .f64 fa, .string S, .slice pp M pc, .slice p N cap] 57)).setCell ⟨b, 0, none⟩ (.string (s ++ ⟨#[1]⟩))).cell? ⟨w.heap.size, 3, none⟩ = some (.string S) := by rw [Lib.cell_of_heap hnB]; rfl
    have a4 : ((w.alloc (.cells #[.int .i64 K, .int .i64 X, .float .f64 fa, .string S, .slice pp M pc, .slice p N cap] 57)).setCell ⟨b, 0, none⟩ (.string (s ++ ⟨#[1]⟩))).cell? ⟨w.heap.size, 4, none⟩ = some (.slice pp M pc) := by rw [Lib.cell_of_heap hnB]; rfl
    have a5 : ((w.alloc (.cells #[.int .i64 K, .int .i64 X, .float .f64 fa, .string S, .slice pp M pc, .slice p N cap] 57)).setCell ⟨b, 0, none⟩ (.string (s ++ ⟨#[1]⟩))).cell? ⟨w.heap.size, 5, none⟩ = some (.slice p N cap) := by rw [Lib.cell_of_heap hnB]; rfl
    have HFB := Lib.hid hfb
    clear hfb hnB hB
    go_enter Tryz.func22, Tryz.ntmps22
    go_upto_region 1 with (fail)
    generalize w.alloc (.cells #[.int .i64 K, .int .i64 X, .float .f64 fa, .string S, .slice pp M pc, .slice p N cap] 57) = W1 at *
    have a0 : W1.cell? ⟨w.heap.size, 0, none⟩ = some (.int .i64 K) := by rw [Lib.cell_of_heap hnA]; rfl
    have a1 : W1.cell? ⟨w.heap.size, 1, none⟩ = some (.int .i64 X) := by rw [Lib.cell_of_heap hnA]; rfl
    have a2 : W1.cell? ⟨w.heap.size, 2, none⟩ = some (.float .f64 fa) := by rw [Lib.cell_of_heap hnA]; rfl
    have a3 : W1.cell? ⟨w.heap.size, 3, none⟩ = some (.string S) := by rw [Lib.cell_of_heap hnA]; rfl
    have a4 : W1.cell? ⟨w.heap.size, 4, none⟩ = some (.slice pp M pc) := by rw [Lib.cell_of_heap hnA]; rfl
    have a5 : W1.cell? ⟨w.heap.size, 5, none⟩ = some (.slice p N cap) := by rw [Lib.cell_of_heap hnA]; rfl
    clear hnA
    go_wp2_with fail
    refine (HC.out).mono ?_; rintro e w3 ⟨rfl, hO3, hF3⟩
    go_wp2_with fail
    go_end0
    refine ⟨rfl, ?_, HFB.out.trans hF3⟩
    have e1 : catO o se = catO (catO o (some [1])) ve := by rw [HS.out, catO_assoc]; rfl
    rw [e1]
    exact hO3.more (by omega)
end
section
open Go.RowKit
set_option maxRecDepth 100000 in
set_option maxHeartbeats 8000000 in
theorem rsmall27_any (P : PartT) (d : Nat) (cs : Array Value) (w : World) (hpa : PartAt w (d + 1) P cs) :
    Calls Tryz.prog 7 #[.agg cs] w (fun e w' => ∃ b, e = .returned (.bool b) ∧ Below w.heap.size w w' ∧ (b = true → P.waits.length ≤ 60 ∧ P.spots.length ≤ 600 ∧ P.puts.length ≤ 60 ∧ P.letters.length ≤ 60 ∧ P.audits.length ≤ 60)) := by
  obtain ⟨_, _, _, _, _, rfl, ⟨s0, c0', rfl, hl0, hi0⟩, ⟨s1, c1', rfl, hl1, hi1⟩, ⟨s2, c2', rfl, hl2, hi2⟩, ⟨s3, c3', rfl, hl3, hi3⟩, ⟨s4, c4', rfl, hl4, hi4⟩⟩ := hpa
  have HIT0 := Lib.hid hi0
  generalize hN0 : P.waits.length = N0 at *
  clear hi0 hN0 hl0
  have HIT1 := Lib.hid hi1
  generalize hN1 : P.spots.length = N1 at *
  clear hi1 hN1 hl1
  have HIT2 := Lib.hid hi2
  generalize hN2 : P.puts.length = N2 at *
  clear hi2 hN2 hl2
  have HIT3 := Lib.hid hi3
  generalize hN3 : P.letters.length = N3 at *
  clear hi3 hN3 hl3
  have HIT4 := Lib.hid hi4
  generalize hN4 : P.audits.length = N4 at *
  clear hi4 hN4 hl4
  have hB : Below w.heap.size w (w.alloc (.cells #[.int .i64 P.next, .int .i64 P.begun, .slice s0 N0 c0', .slice s1 N1 c1', .slice s2 N2 c2', .slice s3 N3 c3', .slice s4 N4 c4'] 28)) := (Below.refl _ _).alloc (Nat.le_refl _) _
  have hnP : (w.alloc (.cells #[.int .i64 P.next, .int .i64 P.begun, .slice s0 N0 c0', .slice s1 N1 c1', .slice s2 N2 c2', .slice s3 N3 c3', .slice s4 N4 c4'] 28)).heap[w.heap.size]? = some (.cells #[.int .i64 P.next, .int .i64 P.begun, .slice s0 N0 c0', .slice s1 N1 c1', .slice s2 N2 c2', .slice s3 N3 c3', .slice s4 N4 c4'] 28 (0, 0)) := heap_alloc_new w _
  go_enter Tryz.func7, Tryz.ntmps7
  go_upto_region 1 with (fail)
  generalize w.alloc (.cells #[.int .i64 P.next, .int .i64 P.begun, .slice s0 N0 c0', .slice s1 N1 c1', .slice s2 N2 c2', .slice s3 N3 c3', .slice s4 N4 c4'] 28) = W1 at *
  have HPart := Lib.hid hnP
  have hHl := lt_of_block hnP
  have HUw := Lib.hid (fun x (h : Below W1.heap.size W1 x) => (show Below w.heap.size w x from hB.trans (h.mono hB.size)))
  have HUr := Lib.hid (fun x (h : Below W1.heap.size W1 x) => (show Below w.heap.size w x from hB.trans (h.mono hB.size)))
  clear hnP
  generalize hgh : w.heap.size = H at *
  have HH := Lib.hid hgh; clear hgh
  replace HUw := Lib.hid (fun x h => (show Below w.heap.size w x by rw [HH.out]; exact HUr.out x h))
  have d0 : W1.cell? ⟨H, 0, none⟩ = some (.int .i64 P.next) := by rw [Lib.cell_of_heap HPart.out]; rfl
  have d1 : W1.cell? ⟨H, 1, none⟩ = some (.int .i64 P.begun) := by rw [Lib.cell_of_heap HPart.out]; rfl
  have d2 : W1.cell? ⟨H, 2, none⟩ = some (.slice s0 N0 c0') := by rw [Lib.cell_of_heap HPart.out]; rfl
  have d3 : W1.cell? ⟨H, 3, none⟩ = some (.slice s1 N1 c1') := by rw [Lib.cell_of_heap HPart.out]; rfl
  have d4 : W1.cell? ⟨H, 4, none⟩ = some (.slice s2 N2 c2') := by rw [Lib.cell_of_heap HPart.out]; rfl
  have d5 : W1.cell? ⟨H, 5, none⟩ = some (.slice s3 N3 c3') := by rw [Lib.cell_of_heap HPart.out]; rfl
  have d6 : W1.cell? ⟨H, 6, none⟩ = some (.slice s4 N4 c4') := by rw [Lib.cell_of_heap HPart.out]; rfl
  go_cut [34] (fun v wx => ∃ bb, v = .bool bb ∧ IffB bb (60 < N0 ∨ 600 < N1 ∨ 60 < N2 ∨ 60 < N3 ∨ 60 < N4) ∧ W1 = wx)
  case first =>
    by_cases n0 : 60 < N0
    · have m0 : decide ((60 : Int) < (N0 : Int)) = true := by simp; omega
      have hx : IffB true (60 < N0 ∨ 600 < N1 ∨ 60 < N2 ∨ 60 < N3 ∨ 60 < N4) := Iff.intro (fun _ => by omega) (fun _ => rfl)
      go_wp2_with fail
      go_meet
      exact ⟨_, rfl, hx, rfl⟩
    · have m0 : decide ((60 : Int) < (N0 : Int)) = false := by simp; omega
      by_cases n1 : 600 < N1
      · have m1 : decide ((600 : Int) < (N1 : Int)) = true := by simp; omega
        have hx : IffB true (60 < N0 ∨ 600 < N1 ∨ 60 < N2 ∨ 60 < N3 ∨ 60 < N4) := Iff.intro (fun _ => by omega) (fun _ => rfl)
        go_wp2_with fail
        go_meet
        exact ⟨_, rfl, hx, rfl⟩
      · have m1 : decide ((600 : Int) < (N1 : Int)) = false := by simp; omega
        by_cases n2 : 60 < N2
        · have m2 : decide ((60 : Int) < (N2 : Int)) = true := by simp; omega
          have hx : IffB true (60 < N0 ∨ 600 < N1 ∨ 60 < N2 ∨ 60 < N3 ∨ 60 < N4) := Iff.intro (fun _ => by omega) (fun _ => rfl)
          go_wp2_with fail
          go_meet
          exact ⟨_, rfl, hx, rfl⟩
        · have m2 : decide ((60 : Int) < (N2 : Int)) = false := by simp; omega
          by_cases n3 : 60 < N3
          · have m3 : decide ((60 : Int) < (N3 : Int)) = true := by simp; omega
            have hx : IffB true (60 < N0 ∨ 600 < N1 ∨ 60 < N2 ∨ 60 < N3 ∨ 60 < N4) := Iff.intro (fun _ => by omega) (fun _ => rfl)
            go_wp2_with fail
            go_meet
            exact ⟨_, rfl, hx, rfl⟩
          · have m3 : decide ((60 : Int) < (N3 : Int)) = false := by simp; omega
            by_cases n4 : 60 < N4
            · have m4 : decide ((60 : Int) < (N4 : Int)) = true := by simp; omega
              have hx : IffB true (60 < N0 ∨ 600 < N1 ∨ 60 < N2 ∨ 60 < N3 ∨ 60 < N4) := Iff.intro (fun _ => by omega) (fun _ => rfl)
              go_wp2_with fail
              go_meet
              exact ⟨_, rfl, hx, rfl⟩
            · have m4 : decide ((60 : Int) < (N4 : Int)) = false := by simp; omega
              have hx : IffB false (60 < N0 ∨ 600 < N1 ∨ 60 < N2 ∨ 60 < N3 ∨ 60 < N4) := Iff.intro (fun h => nomatch h) (fun h => absurd h (by omega))
              go_wp2_with fail
              go_meet
              exact ⟨_, rfl, hx, rfl⟩
  case rest =>
    obtain ⟨bb, rfl, hbb, hw⟩ := hcut
    subst hw
    clear d0 d1 d2 d3 d4 d5 d6
    cases bb with
    | true =>
      clear hbb
      go_wp2_with fail
      go_ret
      exact ⟨false, rfl, by rw [HH.out]; exact hB, fun h => nomatch h⟩
    | false =>
    have hall : ¬ (60 < N0 ∨ 600 < N1 ∨ 60 < N2 ∨ 60 < N3 ∨ 60 < N4) := fun h => by have := hbb.to.2 h; cases this
    have HOK := Lib.hid (show N0 ≤ 60 ∧ N1 ≤ 600 ∧ N2 ≤ 60 ∧ N3 ≤ 60 ∧ N4 ≤ 60 from by omega)
    have l0 : N0 ≤ 600 := by omega
    have l2 : N2 ≤ 600 := by omega
    have l3 : N3 ≤ 600 := by omega
    have l4 : N4 ≤ 600 := by omega
    clear hall hbb
    have hw0 := Below.refl W1.heap.size W1
    have hp0 := (hw0.block H hHl).trans HPart.out
    have d0 : W1.cell? ⟨H, 2, none⟩ = some (.slice s0 N0 c0') := by rw [Lib.cell_of_heap hp0]; rfl
    go_wp2_with fail
    clear hp0 d0
    go_loopw [3] (fun iv wr => ∃ i : Nat, iv = .int .i64 (i : Int) ∧ i ≤ N0 ∧ Below W1.heap.size W1 wr) (fun iv _ => N0 - (intOf iv).toNat)
    case atStart => exact ⟨0, rfl, by omega, hw0⟩
    case round =>
      clear hw0
      obtain ⟨i, rfl, hi, hwr⟩ := hrel
      have hpr := (hwr.block H hHl).trans HPart.out
      have dr : wr.cell? ⟨H, 2, none⟩ = some (.slice s0 N0 c0') := by rw [Lib.cell_of_heap hpr]; rfl
      clear hpr
      by_cases hlt : i < N0
      · have t0 : decide ((i : Int) < (N0 : Int)) = true := by simp; omega
        obtain ⟨g, off, hsp, hgl, ds, hit, hcl⟩ := HIT0.out i hlt
        subst hsp
        generalize P.waits.getD i ([], []) = x at *
        obtain ⟨a0, a1, a2, a3, a4, v, pp, pc, p', cap, rfl, hv, rfl⟩ := hit.open51
        have hur := HUr.out _ hwr
        have x5 := (hur.cell (p := ⟨g, off + i * 11 + 5, none⟩) hgl).trans (hcl 5 (by omega))
        have x6 := (hur.cell (p := ⟨g, off + i * 11 + 6, none⟩) hgl).trans (hcl 6 (by omega))
        have x7 := (hur.cell (p := ⟨g, off + i * 11 + 7, none⟩) hgl).trans (hcl 7 (by omega))
        have x8 := (hur.cell (p := ⟨g, off + i * 11 + 8, none⟩) hgl).trans (hcl 8 (by omega))
        have x9 := (hur.cell (p := ⟨g, off + i * 11 + 9, none⟩) hgl).trans (hcl 9 (by omega))
        have x10 := (hur.cell (p := ⟨g, off + i * 11 + 10, none⟩) hgl).trans (hcl 10 (by omega))
        simp at x5 x6 x7 x8 x9 x10
        have b1 : (0 : Int) ≤ (i : Int) := by omega
        have b2 : (i : Int) < (N0 : Int) := by omega
        have HS := Lib.hid (rsmall_any (d + 1) v _ wr (hv.kept (HUw.out _ hwr)))
        clear hcl hit
        cases hsb : smallB v
        · rw [hsb] at HS
          clear hsb
          go_wp2_with fail
          refine (HS.out).mono ?_; rintro e w9 ⟨rfl, hb9⟩
          go_wp2_with fail
          go_ret
          exact ⟨false, rfl, by rw [HH.out]; exact hB.trans ((below_tr' hwr hb9).mono (by have := hB.size; rw [HH.out] at this; exact this)), fun h => nomatch h⟩
        · rw [hsb] at HS
          clear hsb
          go_wp2_with fail
          refine (HS.out).mono ?_; rintro e w9 ⟨rfl, hb9⟩
          go_wp2_with fail
          go_roundw
          case rel => exact ⟨i + 1, by go_num, by omega, below_tr' hwr hb9⟩
          case measure => simp [intOf]; omega
      · have t0 : decide ((i : Int) < (N0 : Int)) = false := by simp; omega
        have hw1 := hwr
        clear hwr
        generalize wr = w1 at *
        have hp1 := (hw1.block H hHl).trans HPart.out
        have d1 : w1.cell? ⟨H, 4, none⟩ = some (.slice s2 N2 c2') := by rw [Lib.cell_of_heap hp1]; rfl
        go_wp2_with fail
        clear hp1 d1
        go_loopw [4] (fun iv wr => ∃ i : Nat, iv = .int .i64 (i : Int) ∧ i ≤ N2 ∧ Below W1.heap.size W1 wr) (fun iv _ => N2 - (intOf iv).toNat)
        case atStart => exact ⟨0, rfl, by omega, hw1⟩
        case round =>
          clear hw1
          obtain ⟨i, rfl, hi, hwr⟩ := hrel
          have hpr := (hwr.block H hHl).trans HPart.out
          have dr : wr.cell? ⟨H, 4, none⟩ = some (.slice s2 N2 c2') := by rw [Lib.cell_of_heap hpr]; rfl
          clear hpr
          by_cases hlt : i < N2
          · have t0 : decide ((i : Int) < (N2 : Int)) = true := by simp; omega
            obtain ⟨g, off, hsp, hgl, ds, hit, hcl⟩ := HIT2.out i hlt
            subst hsp
            generalize P.puts.getD i ([], []) = x at *
            obtain ⟨a0, a1, a2, v, pp, pc, p', cap, rfl, hv, rfl⟩ := hit.open31
            have hur := HUr.out _ hwr
            have x3 := (hur.cell (p := ⟨g, off + i * 9 + 3, none⟩) hgl).trans (hcl 3 (by omega))
            have x4 := (hur.cell (p := ⟨g, off + i * 9 + 4, none⟩) hgl).trans (hcl 4 (by omega))
            have x5 := (hur.cell (p := ⟨g, off + i * 9 + 5, none⟩) hgl).trans (hcl 5 (by omega))
            have x6 := (hur.cell (p := ⟨g, off + i * 9 + 6, none⟩) hgl).trans (hcl 6 (by omega))
            have x7 := (hur.cell (p := ⟨g, off + i * 9 + 7, none⟩) hgl).trans (hcl 7 (by omega))
            have x8 := (hur.cell (p := ⟨g, off + i * 9 + 8, none⟩) hgl).trans (hcl 8 (by omega))
            simp at x3 x4 x5 x6 x7 x8
            have b1 : (0 : Int) ≤ (i : Int) := by omega
            have b2 : (i : Int) < (N2 : Int) := by omega
            have HS := Lib.hid (rsmall_any (d + 1) v _ wr (hv.kept (HUw.out _ hwr)))
            clear hcl hit
            cases hsb : smallB v
            · rw [hsb] at HS
              clear hsb
              go_wp2_with fail
              refine (HS.out).mono ?_; rintro e w9 ⟨rfl, hb9⟩
              go_wp2_with fail
              go_ret
              exact ⟨false, rfl, by rw [HH.out]; exact hB.trans ((below_tr' hwr hb9).mono (by have := hB.size; rw [HH.out] at this; exact this)), fun h => nomatch h⟩
            · rw [hsb] at HS
              clear hsb
              go_wp2_with fail
              refine (HS.out).mono ?_; rintro e w9 ⟨rfl, hb9⟩
              go_wp2_with fail
              go_roundw
              case rel => exact ⟨i + 1, by go_num, by omega, below_tr' hwr hb9⟩
              case measure => simp [intOf]; omega
          · have t0 : decide ((i : Int) < (N2 : Int)) = false := by simp; omega
            have hw2 := hwr
            clear hwr
            generalize wr = w2 at *
            have hp2 := (hw2.block H hHl).trans HPart.out
            have d2 : w2.cell? ⟨H, 5, none⟩ = some (.slice s3 N3 c3') := by rw [Lib.cell_of_heap hp2]; rfl
            go_wp2_with fail
            clear hp2 d2
            go_loopw [5] (fun iv wr => ∃ i : Nat, iv = .int .i64 (i : Int) ∧ i ≤ N3 ∧ Below W1.heap.size W1 wr) (fun iv _ => N3 - (intOf iv).toNat)
            case atStart => exact ⟨0, rfl, by omega, hw2⟩
            case round =>
              clear hw2
              obtain ⟨i, rfl, hi, hwr⟩ := hrel
              have hpr := (hwr.block H hHl).trans HPart.out
              have dr : wr.cell? ⟨H, 5, none⟩ = some (.slice s3 N3 c3') := by rw [Lib.cell_of_heap hpr]; rfl
              clear hpr
              by_cases hlt : i < N3
              · have t0 : decide ((i : Int) < (N3 : Int)) = true := by simp; omega
                obtain ⟨g, off, hsp, hgl, ds, hit, hcl⟩ := HIT3.out i hlt
                subst hsp
                generalize P.letters.getD i ([], []) = x at *
                obtain ⟨a0, v, pp, pc, p', cap, v2, pp2, pc2, p2, cap2, rfl, hv, hv2, rfl⟩ := hit.open12
                have hur := HUr.out _ hwr
                have x1 := (hur.cell (p := ⟨g, off + i * 13 + 1, none⟩) hgl).trans (hcl 1 (by omega))
                have x2 := (hur.cell (p := ⟨g, off + i * 13 + 2, none⟩) hgl).trans (hcl 2 (by omega))
                have x3 := (hur.cell (p := ⟨g, off + i * 13 + 3, none⟩) hgl).trans (hcl 3 (by omega))
                have x4 := (hur.cell (p := ⟨g, off + i * 13 + 4, none⟩) hgl).trans (hcl 4 (by omega))
                have x5 := (hur.cell (p := ⟨g, off + i * 13 + 5, none⟩) hgl).trans (hcl 5 (by omega))
                have x6 := (hur.cell (p := ⟨g, off + i * 13 + 6, none⟩) hgl).trans (hcl 6 (by omega))
                have x7 := (hur.cell (p := ⟨g, off + i * 13 + 7, none⟩) hgl).trans (hcl 7 (by omega))
                have x8 := (hur.cell (p := ⟨g, off + i * 13 + 8, none⟩) hgl).trans (hcl 8 (by omega))
                have x9 := (hur.cell (p := ⟨g, off + i * 13 + 9, none⟩) hgl).trans (hcl 9 (by omega))
                have x10 := (hur.cell (p := ⟨g, off + i * 13 + 10, none⟩) hgl).trans (hcl 10 (by omega))
                have x11 := (hur.cell (p := ⟨g, off + i * 13 + 11, none⟩) hgl).trans (hcl 11 (by omega))
                have x12 := (hur.cell (p := ⟨g, off + i * 13 + 12, none⟩) hgl).trans (hcl 12 (by omega))
                simp at x1 x2 x3 x4 x5 x6 x7 x8 x9 x10 x11 x12
                have b1 : (0 : Int) ≤ (i : Int) := by omega
                have b2 : (i : Int) < (N3 : Int) := by omega
                have HS := Lib.hid (rsmall_any (d + 1) v _ wr (hv.kept (HUw.out _ hwr)))
                have hcl0 := Lib.hid hcl
                clear hcl hit
                cases hsb : smallB v
                · rw [hsb] at HS
                  clear hsb
                  go_wp2_with fail
                  refine (HS.out).mono ?_; rintro e w9 ⟨rfl, hb9⟩
                  go_wp2_with fail
                  go_ret
                  exact ⟨false, rfl, by rw [HH.out]; exact hB.trans ((below_tr' hwr hb9).mono (by have := hB.size; rw [HH.out] at this; exact this)), fun h => nomatch h⟩
                · rw [hsb] at HS
                  clear hsb
                  go_wp2_with fail
                  refine (HS.out).mono ?_; rintro e w9 ⟨rfl, hb9⟩
                  have hwq := below_tr' hwr hb9
                  have hpr := (hwq.block H hHl).trans HPart.out
                  clear dr x1 x2 x3 x4 x5 x6 x7 x8 x9 x10 x11 x12
                  have dr : w9.cell? ⟨H, 5, none⟩ = some (.slice (some ⟨g, off, none⟩) N3 c3') := by rw [Lib.cell_of_heap hpr]; rfl
                  have hcl2 := hcl0
                  have hur2 := HUr.out _ hwq
                  have x7 := (hur2.cell (p := ⟨g, off + i * 13 + 7, none⟩) hgl).trans (hcl2.out 7 (by omega))
                  have x8 := (hur2.cell (p := ⟨g, off + i * 13 + 8, none⟩) hgl).trans (hcl2.out 8 (by omega))
                  have x9 := (hur2.cell (p := ⟨g, off + i * 13 + 9, none⟩) hgl).trans (hcl2.out 9 (by omega))
                  have x10 := (hur2.cell (p := ⟨g, off + i * 13 + 10, none⟩) hgl).trans (hcl2.out 10 (by omega))
                  have x11 := (hur2.cell (p := ⟨g, off + i * 13 + 11, none⟩) hgl).trans (hcl2.out 11 (by omega))
                  have x12 := (hur2.cell (p := ⟨g, off + i * 13 + 12, none⟩) hgl).trans (hcl2.out 12 (by omega))
                  simp at x7 x8 x9 x10 x11 x12
                  have HS2 := Lib.hid (rsmall_any (d + 1) v2 _ w9 (hv2.kept (HUw.out _ hwq)))
                  clear hcl2 hpr
                  cases hsb : smallB v2
                  · rw [hsb] at HS2
                    clear hsb
                    go_wp2_with fail
                    refine (HS2.out).mono ?_; rintro e w10 ⟨rfl, hb10⟩
                    go_wp2_with fail
                    go_ret
                    exact ⟨false, rfl, by rw [HH.out]; exact hB.trans ((below_tr' hwq hb10).mono (by have := hB.size; rw [HH.out] at this; exact this)), fun h => nomatch h⟩
                  · rw [hsb] at HS2
                    clear hsb
                    go_wp2_with fail
                    refine (HS2.out).mono ?_; rintro e w10 ⟨rfl, hb10⟩
                    go_wp2_with fail
                    go_roundw
                    case rel => exact ⟨i + 1, by go_num, by omega, below_tr' hwq hb10⟩
                    case measure => simp [intOf]; omega
              · have t0 : decide ((i : Int) < (N3 : Int)) = false := by simp; omega
                have hw3 := hwr
                clear hwr
                generalize wr = w3 at *
                have hp3 := (hw3.block H hHl).trans HPart.out
                have d3 : w3.cell? ⟨H, 6, none⟩ = some (.slice s4 N4 c4') := by rw [Lib.cell_of_heap hp3]; rfl
                go_wp2_with fail
                clear hp3 d3
                go_loopw [6] (fun iv wr => ∃ i : Nat, iv = .int .i64 (i : Int) ∧ i ≤ N4 ∧ Below W1.heap.size W1 wr) (fun iv _ => N4 - (intOf iv).toNat)
                case atStart => exact ⟨0, rfl, by omega, hw3⟩
                case round =>
                  clear hw3
                  obtain ⟨i, rfl, hi, hwr⟩ := hrel
                  have hpr := (hwr.block H hHl).trans HPart.out
                  have dr : wr.cell? ⟨H, 6, none⟩ = some (.slice s4 N4 c4') := by rw [Lib.cell_of_heap hpr]; rfl
                  clear hpr
                  by_cases hlt : i < N4
                  · have t0 : decide ((i : Int) < (N4 : Int)) = true := by simp; omega
                    obtain ⟨g, off, hsp, hgl, ds, hit, hcl⟩ := HIT4.out i hlt
                    subst hsp
                    generalize P.audits.getD i ([], []) = x at *
                    obtain ⟨a0, a1, a2, a3, a4, v, pp, pc, p', cap, rfl, hv, rfl⟩ := hit.open51
                    have hur := HUr.out _ hwr
                    have x5 := (hur.cell (p := ⟨g, off + i * 11 + 5, none⟩) hgl).trans (hcl 5 (by omega))
                    have x6 := (hur.cell (p := ⟨g, off + i * 11 + 6, none⟩) hgl).trans (hcl 6 (by omega))
                    have x7 := (hur.cell (p := ⟨g, off + i * 11 + 7, none⟩) hgl).trans (hcl 7 (by omega))
                    have x8 := (hur.cell (p := ⟨g, off + i * 11 + 8, none⟩) hgl).trans (hcl 8 (by omega))
                    have x9 := (hur.cell (p := ⟨g, off + i * 11 + 9, none⟩) hgl).trans (hcl 9 (by omega))
                    have x10 := (hur.cell (p := ⟨g, off + i * 11 + 10, none⟩) hgl).trans (hcl 10 (by omega))
                    simp at x5 x6 x7 x8 x9 x10
                    have b1 : (0 : Int) ≤ (i : Int) := by omega
                    have b2 : (i : Int) < (N4 : Int) := by omega
                    have HS := Lib.hid (rsmall_any (d + 1) v _ wr (hv.kept (HUw.out _ hwr)))
                    clear hcl hit
                    cases hsb : smallB v
                    · rw [hsb] at HS
                      clear hsb
                      go_wp2_with fail
                      refine (HS.out).mono ?_; rintro e w9 ⟨rfl, hb9⟩
                      go_wp2_with fail
                      go_ret
                      exact ⟨false, rfl, by rw [HH.out]; exact hB.trans ((below_tr' hwr hb9).mono (by have := hB.size; rw [HH.out] at this; exact this)), fun h => nomatch h⟩
                    · rw [hsb] at HS
                      clear hsb
                      go_wp2_with fail
                      refine (HS.out).mono ?_; rintro e w9 ⟨rfl, hb9⟩
                      go_wp2_with fail
                      go_roundw
                      case rel => exact ⟨i + 1, by go_num, by omega, below_tr' hwr hb9⟩
                      case measure => simp [intOf]; omega
                  · have t0 : decide ((i : Int) < (N4 : Int)) = false := by simp; omega
                    have hw4 := hwr
                    clear hwr
                    generalize wr = w4 at *
                    go_wp2_with fail
                    go_ret
                    exact ⟨true, rfl, by rw [HH.out]; exact hB.trans (hw4.mono (by have := hB.size; rw [HH.out] at this; exact this)), fun _ => HOK.out⟩
end
end Go.Proofs.YtnaamiecljinnaaGreat
