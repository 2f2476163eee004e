/-
  S1, S2, S3, S4, Yi, Yu, C2 in one text.
-/
import Derived.Below
import Derived.BigQuiet
import Derived.Deep.Cut
import Derived.Deep.QuietTactic
import Derived.Deep.RegionHeld3
import Derived.Deep.RegionWith
import Derived.Defers
import Derived.Handy
import Derived.IntWalk
import Derived.Laws.Bits64b
import Derived.Laws.FloatBits
import Derived.Lib.AtoiAll
import Derived.Lib.Builder
import Derived.Lib.Bytes
import Derived.Lib.ConvBytes
import Derived.Lib.FrozenHead2
import Derived.Lib.Hide
import Derived.Lib.IndexMore
import Derived.Lib.ItoaNum
import Derived.Lib.MinMax
import Derived.Lib.OthersKept
import Derived.Lib.ParseIntB
import Derived.Lib.UnsafeStr
import Derived.LoopTactic
import Derived.OneCell
import Derived.OwnWalk
import Derived.Recover
import Derived.RegionTactic
import Derived.Tactics
import Derived.Tactics2
import Derived.Test.YtnaamiecljinnaaGreatChecked
import Derived.WalkKit
import Derived.WalkLawsBesides
import Derived.WalkSpells
import Ieee.Arith
import Derived.Test.YtnaamiecljinnaaGreatS00
import Derived.Test.YtnaamiecljinnaaGreatS02
import Derived.Test.YtnaamiecljinnaaGreatS03
import Derived.Test.YtnaamiecljinnaaGreatS06
namespace Go.Proofs.YtnaamiecljinnaaGreat
section
open Go.RowKit
/-- given up with an error's number -/
abbrev gave (x : Int) : Ending := .panicked [{ v := .iface 31 (.int .i64 x), recovered := false }]
theorem bt_snap : BT 74 := ⟨by kernel_rfl, by decide⟩
set_option maxRecDepth 100000 in
set_option maxHeartbeats 1000000 in
theorem must_yes (w : World) : Calls Tryz.prog 46 #[.bool true] w fun e w' => e = .returned (.tuple #[]) ∧ w = w' := by
  go_enter Tryz.func46, Tryz.ntmps46
  go_wp2_with fail
  go_end0
  exact ⟨rfl, rfl⟩
set_option maxRecDepth 100000 in
set_option maxHeartbeats 1000000 in
theorem must_no (w : World) : Calls Tryz.prog 46 #[.bool false] w fun e w' => e = gave 5 ∧ w = w' := by
  go_enter Tryz.func46, Tryz.ntmps46
  go_wp2_with fail
  exact ⟨rfl, rfl, rfl⟩
def inN (n : Int) : Bool := decide (0 ≤ n) && decide (n ≤ 2199023255552)
/-- the bytes of counts, or none -/
def numsE : List Int → Option (List UInt8)
  | [] => some []
  | n :: l => if inN n then (match numsE l with | none => none | some r => some (uintS n.toNat ++ r)) else none
/-- a writer wrote, or gave up -/
def WrOr (T : TypeId) (B b : Nat) (o : List UInt8) (r : Option (List UInt8)) (w : World) (e : Ending) (w' : World) : Prop :=
  match r with
  | some q => e = .returned (.tuple #[]) ∧ Bld T B b (o ++ q) w' ∧ Wrote B b w w'
  | none => e = gave 5 ∧ Below B w w'
theorem numsE_len : ∀ (l : List Int) (r : List UInt8), numsE l = some r → r.length ≤ 10 * l.length
  | [], r, h => by cases h; simp
  | n :: l, r, h => by
    rw [numsE] at h
    split at h
    · split at h
      · cases h
      · rename_i q hq
        cases h
        have := numsE_len l q hq
        have := uintS_len n.toNat
        simp; omega
    · cases h
/-- the first counts written, the others still to come -/
theorem numsE_drop {l : List Int} {i : Nat} (h : i < l.length) : numsE (l.drop i) = if inN (l.getD i 0) then (match numsE (l.drop (i + 1)) with | none => none | some r => some (uintS (l.getD i 0).toNat ++ r)) else none := by
  have e : l.getD i 0 = l[i] := by simp [List.getD, h]
  rw [List.drop_eq_getElem_cons h, numsE, e]
def preB (q : List UInt8) : Option (List UInt8) → Option (List UInt8)
  | none => none
  | some r => some (q ++ r)
theorem preB_nil (r : Option (List UInt8)) : preB [] r = r := by cases r <;> rfl
theorem preB_app (p q : List UInt8) (r : Option (List UInt8)) : preB (p ++ q) r = preB p (preB q r) := by
  cases r
  · rfl
  · simp [preB]
set_option maxRecDepth 100000 in
set_option maxHeartbeats 2000000 in
theorem snum_any (l : List Int) (N : Nat) (cs : Array Value) (hN : l.length = N) (hcs : (l.map (Value.int .i64)).toArray = cs) (hl : N ≤ 20) (g B b : Nat) (o : List UInt8) (ho : o.length ≤ 90000000) (w : World) (hb : Bld 74 B b o w)
    (hg : w.heap[g]? = some (.cells cs 3 (0, 0))) :
    Calls Tryz.prog 38 #[.pointer (some ⟨b, 0, none⟩), .slice (some ⟨g, 0, none⟩) N N] w (WrOr 74 B b o (numsE l) w) := by
  subst hcs
  have hne : g ≠ b := by
    rintro rfl
    rcases hb.2 with h | h <;> obtain ⟨_, v, h, _⟩ := h <;> rw [hg] at h <;> injection h with h <;> injection h with _ h <;> exact absurd h (by decide)
  have HW := Lib.hid (fun (o : List UInt8) (w : World) (h : Bld 74 B b o w) (l : List UInt8) (hlen : o.length + l.length ≤ 100000000) => h.writeS bt_snap l hlen)
  have HU := Lib.hid (fun n h w => cUint_any n h w)
  have HMy := Lib.hid must_yes
  have HMn := Lib.hid must_no
  have HG := Lib.hid hg; clear hg
  have HN := Lib.hid hN; clear hN
  go_enter Tryz.func38, Tryz.ntmps38
  go_wp2_with fail
  go_loopw [8] (fun v wr => ∃ (i : Nat) (q : List UInt8), v = .int .i64 (i : Int) ∧ i ≤ N ∧ q.length ≤ 10 * i ∧ Hid (numsE l = preB q (numsE (l.drop i))) ∧ Bld 74 B b (o ++ q) wr ∧ Wrote B b w wr) (fun v _ => N - (intOf v).toNat)
  case atStart => exact ⟨0, [], rfl, by omega, by simp, by show _ = _; rw [preB_nil, List.drop_zero], by rw [List.append_nil]; exact hb, Wrote.refl _ _ _⟩
  case round =>
    obtain ⟨i, q, rfl, hi, hq, hE, hbd, hwr⟩ := hrel
    have hgr := hwr.block HG.out hne (by decide)
    by_cases hlt : i < N
    · have t0 : decide ((i : Int) < (N : Int)) = true := by simp; omega
      have hlen : i < l.length := by rw [HN.out]; exact hlt
      have c0 : wr.cell? ⟨g, i, none⟩ = some (.int .i64 (l.getD i 0)) := by
        rw [Lib.cell_of_heap hgr]; simp [List.getD, hlen]
      have b1 : (0 : Int) ≤ (i : Int) := by omega
      have b2 : (i : Int) < (N : Int) := by omega
      have HD := Lib.hid (numsE_drop hlen)
      clear hgr hlen
      generalize l.getD i 0 = n at *
      cases hin : inN n
      · rw [hin] at HD
        have HF := Lib.hid (show (decide ((0 : Int) ≤ n) && decide (n ≤ 2199023255552)) = false from hin)
        by_cases h1 : 0 ≤ n
        · have t2 : decide ((0 : Int) ≤ n) = true := decide_eq_true h1
          have t3 : decide (n ≤ 2199023255552) = false := by have := HF.out; rw [t2] at this; simpa using this
          clear hin h1
          go_wp2_with fail
          refine (HMn.out _).mono ?_; rintro e w1 ⟨rfl, rfl⟩
          go_wp2_with fail
          exact ⟨rfl, by rw [hE.out, HD.out]; exact ⟨rfl, hwr.1⟩⟩
        · have t2 : decide ((0 : Int) ≤ n) = false := decide_eq_false h1
          clear hin h1
          go_wp2_with fail
          refine (HMn.out _).mono ?_; rintro e w1 ⟨rfl, rfl⟩
          go_wp2_with fail
          exact ⟨rfl, by rw [hE.out, HD.out]; exact ⟨rfl, hwr.1⟩⟩
      · rw [hin] at HD
        obtain ⟨h1, h2⟩ : 0 ≤ n ∧ n ≤ 2199023255552 := by simpa [inN] using hin
        obtain ⟨k, rfl⟩ := Int.eq_ofNat_of_zero_le h1
        clear hin
        have HUU := Lib.hid (HU.out k (by omega))
        have hkl := uintS_len k
        have wk : IntKind.u64.wrap (k : Int) = (k : Int) := by rw [IntKind.wrap_u64]; omega
        have HL2 := Lib.hid (show (o ++ q).length + (uintS k).length ≤ 100000000 by simp; omega)
        go_wp2_with fail
        refine (HMy.out _).mono ?_; rintro e w1 ⟨rfl, rfl⟩
        go_wp2_with fail
        go_region_held3 (fun _ => True) (trivial) (first | (go_at_call 67; (with_reducible refine (HUU.out _).mono ?_); rintro e w2 ⟨rfl, hb2⟩) | (go_at_call 37; refine (HW.out _ _ (hbd.drew.below hb2) (uintS k) HL2.out).mono ?_; rintro e w3 ⟨rfl, hb3, hw3⟩))
        go_wp2_with fail
        go_roundw
        case rel => exact ⟨i + 1, q ++ uintS k, by go_num, by omega, by simp; omega, by show _ = _; rw [hE.out, HD.out, preB_app]; simp only [if_true]; rfl, by rw [← List.append_assoc]; exact hb3, (hwr.drew.below hbd.1 hb2).trans hw3⟩
        case measure => simp [intOf]; omega
    · have t0 : decide ((i : Int) < (N : Int)) = false := by simp; omega
      go_wp2_with fail
      go_end0
      rw [hE.out, List.drop_eq_nil_of_le (by rw [HN.out]; omega)]
      exact ⟨rfl, by rw [List.append_nil]; exact hbd, hwr⟩
end
section
open Go.RowKit
def manyE (n : Int) : Option (List UInt8) := if n ≤ 500 then numsE [n] else none
set_option maxRecDepth 100000 in
set_option maxHeartbeats 2000000 in
theorem smany_any (n : Int) (B b : Nat) (o : List UInt8) (ho : o.length ≤ 90000000) (w : World) (hb : Bld 74 B b o w) :
    Calls Tryz.prog 39 #[.pointer (some ⟨b, 0, none⟩), .int .i64 n] w (WrOr 74 B b o (manyE n) w) := by
  have HMy := Lib.hid must_yes
  have HMn := Lib.hid must_no
  by_cases h : n ≤ 500
  · have t1 : decide (n ≤ 500) = true := decide_eq_true h
    have HN := snum_any [n] 1 _ rfl rfl (by omega) w.heap.size B b o ho _ (hb.alloc (.cells #[.int .i64 n] 3)) (heap_alloc_new w _)
    rw [manyE, if_pos h]
    have hB := hb.1
    clear h
    generalize numsE [n] = r at *
    cases r
    · have HN := Lib.hid HN
      go_enter Tryz.func39, Tryz.ntmps39
      go_wp2_with fail
      refine (HMy.out _).mono ?_; rintro e w1 ⟨rfl, rfl⟩
      go_wp2_with fail
      refine (HN.out).mono ?_
      rintro e w2 ⟨rfl, hb2⟩
      go_wp2_with fail
      exact ⟨rfl, rfl, ((Below.refl _ _).alloc hB _).trans hb2⟩
    · have HN := Lib.hid HN
      go_enter Tryz.func39, Tryz.ntmps39
      go_wp2_with fail
      refine (HMy.out _).mono ?_; rintro e w1 ⟨rfl, rfl⟩
      go_wp2_with fail
      refine (HN.out).mono ?_
      rintro e w2 ⟨rfl, hb2, hw2⟩
      go_wp2_with fail
      go_end0
      exact ⟨rfl, hb2, ((Wrote.refl _ _ _).alloc hB _).trans hw2⟩
  · have t1 : decide (n ≤ 500) = false := decide_eq_false h
    rw [manyE, if_neg h]
    clear h
    go_enter Tryz.func39, Tryz.ntmps39
    go_wp2_with fail
    refine (HMn.out _).mono ?_; rintro e w1 ⟨rfl, rfl⟩
    go_wp2_with fail
    exact ⟨rfl, rfl, Below.refl _ _⟩
theorem ta_errno (x : Int) (w : World) : (Instr.typeAssert (.iface 31 (.int .i64 x)) 20 31 true).run Tryz.prog w = .ok (.tuple #[.int .i64 x, .bool true]) w := by kernel_rfl
theorem ta_nil (w : World) : (Instr.typeAssert .nilIface 20 31 true).run Tryz.prog w = .ok (.tuple #[.int .i64 0, .bool false]) w := by kernel_rfl
set_option maxRecDepth 100000 in
theorem caught_up (p : Addr) (x y : Int) (w : World) (hc : w.cell? p = some (.int .i64 y)) (hz : w.frozen? p = false) :
    CallsD Tryz.prog 17 #[.pointer (some p)] (.panicking [{ v := .iface 31 (.int .i64 x), recovered := false }]) w fun e u' w' =>
      e = .returned (.tuple #[]) ∧ u' = .panicking [{ v := .iface 31 (.int .i64 x), recovered := true }] ∧ w' = w.setCell p (.int .i64 x) := by
  have hta := ta_errno x
  refine callsD_of_wpS Tryz.func17 rfl fun c₀ cs hu => ?_
  apply wpS_seq
  apply wpS_region
  simp [wpOpsS, go_sem, recoverD, hu, hta, Tryz.ntmps17, Exit.thenS]
  apply wpS_seq
  apply wpS_region
  simp [wpOpsS, go_sem, Exit.thenS]
  refine wpS_cond (t := true) (by simp [Act.eval, Array.replicate]) ?_
  simp only [if_true]
  apply wpS_region
  simp [wpOpsS, go_sem, hc, hz, bodyPostS, results, Tryz.results17]
set_option maxRecDepth 100000 in
theorem caught_idle (p : Addr) (w : World) :
    CallsD Tryz.prog 17 #[.pointer (some p)] .returning w fun e u' w' => e = .returned (.tuple #[]) ∧ u' = .returning ∧ w' = w := by
  have hta := ta_nil
  refine callsD_of_wpS Tryz.func17 rfl fun c₀ cs hu => ?_
  apply wpS_seq
  apply wpS_region
  simp [wpOpsS, go_sem, recoverD, hu, hta, Tryz.ntmps17, Exit.thenS]
  apply wpS_seq
  apply wpS_region
  simp [wpOpsS, go_sem, Exit.thenS]
  refine wpS_cond (t := false) (by simp [Act.eval, Array.replicate]) ?_
  simp only [Bool.false_eq_true, if_false]
  refine wpS_of_wp (wp_skip ?_)
  cases c₀
  simp_all [bodyPostS, results, Tryz.results17]
end
section
open Go.RowKit
def magicB : List UInt8 := [83, 78, 80, 49]
def bareCs (next begun : Int) : Array Value := #[.int .i64 next, .int .i64 begun, .slice none 0 0, .slice none 0 0, .slice none 0 0, .slice none 0 0, .slice none 0 0]
theorem Bld.ne_of {T U : TypeId} {B b g : Nat} {o : List UInt8} {w : World} {cs : Array Value} {fz : Nat × Nat} (h : Bld T B b o w) (hg : w.heap[g]? = some (.cells cs U fz)) (hU : U ≠ T) : g ≠ b := by
  rintro rfl
  rcases h.2 with h | h <;> obtain ⟨_, v, h, _⟩ := h <;> rw [hg] at h <;> injection h with h <;> injection h with _ h <;> exact absurd h hU
theorem many_zero : manyE 0 = some [0] := by decide
set_option maxRecDepth 100000 in
set_option maxHeartbeats 4000000 in
theorem part_bare (next begun : Int) (r : List UInt8) (hr : numsE [next, begun] = some r) (hrl : r.length ≤ 20) (p B b : Nat) (w : World) (hb : Bld 74 B b [] w)
    (hp : w.heap[p]? = some (.cells (bareCs next begun) 28 (0, 0))) :
    Calls Tryz.prog 18 #[.pointer (some ⟨b, 0, none⟩), .pointer (some ⟨p, 0, none⟩)] w (WrOr 74 B b [] (some (magicB ++ r ++ [0] ++ [0] ++ [0] ++ [0] ++ [0])) w) := by
  have hne := hb.ne_of hp (by decide)
  have HW := Lib.hid (hb.writeS bt_snap magicB (by decide))
  have HN := Lib.hid (fun g w' hb' hg' => hr ▸ snum_any [next, begun] 2 #[.int .i64 next, .int .i64 begun] rfl rfl (by omega) g B b magicB (by decide) w' hb' hg')
  have HM := Lib.hid (fun (o : List UInt8) (ho : o.length ≤ 90000000) w' hb' => many_zero ▸ smany_any 0 B b o ho w' hb')
  have HR := Lib.hid hrl
  have HK := Lib.hid (fun x (h : Wrote B b w x) => (show x.cell? ⟨p, 0, none⟩ = some (.int .i64 next) ∧ x.cell? ⟨p, 1, none⟩ = some (.int .i64 begun) from by
    have hb := h.block hp hne (by decide)
    exact ⟨by rw [Lib.cell_of_heap hb]; rfl, by rw [Lib.cell_of_heap hb]; rfl⟩))
  clear hrl hr
  go_enter Tryz.func18, Tryz.ntmps18
  go_wp2_with fail
  refine (HW.out).mono ?_; rintro e w1 ⟨rfl, hb1, hw1⟩
  rw [List.nil_append] at hb1
  have hp1 := hw1.block hp hne (by decide)
  have c0 : w1.cell? ⟨p, 0, none⟩ = some (.int .i64 next) := by rw [Lib.cell_of_heap hp1]; rfl
  have c1 : w1.cell? ⟨p, 1, none⟩ = some (.int .i64 begun) := by rw [Lib.cell_of_heap hp1]; rfl
  go_wp2_with fail
  go_region_held3 (fun w' => w'.cell? ⟨p, 0, none⟩ = some (.int .i64 next) ∧ w'.cell? ⟨p, 1, none⟩ = some (.int .i64 begun)) (first | exact ⟨c0, c1⟩ | go_keep | exact HK.out _ (((hw1.alloc hb1.1 _).drew).trans hw2)) ((go_at_call 38; (with_reducible refine (HN.out _ _ (hb1.alloc _).drew (heap_alloc_new w1 _)).mono ?_); rintro e w2 ⟨rfl, hb2, hw2⟩))
  have hwa : Wrote B b w w2 := ((hw1.alloc hb1.1 _).drew).trans hw2
  have hpa := hwa.block hp hne (by decide)
  have d0 : w2.cell? ⟨p, 2, none⟩ = some (.slice none 0 0) := by rw [Lib.cell_of_heap hpa]; rfl
  go_wp2_with fail
  refine (HM.out _ ?_ _ hb2).mono ?_
  · have := HR.out; simp [magicB]; omega
  rintro e w3 ⟨rfl, hb3, hx3⟩
  have hwb := hwa.trans hx3
  have hpb := hwb.block hp hne (by decide)
  have e0 : w3.cell? ⟨p, 2, none⟩ = some (.slice none 0 0) := by rw [Lib.cell_of_heap hpb]; rfl
  go_wp2_with fail
  refine wp_loop_rounds 1 ?_
  rw [rounds_succ]
  have d1 : w3.cell? ⟨p, 3, none⟩ = some (.slice none 0 0) := by rw [Lib.cell_of_heap hpb]; rfl
  go_wp2_with fail
  refine (HM.out _ ?_ _ hb3).mono ?_
  · have := HR.out; simp [magicB]; omega
  rintro e w4 ⟨rfl, hb4, hx4⟩
  have hwc := hwb.trans hx4
  have hpc := hwc.block hp hne (by decide)
  have e1 : w4.cell? ⟨p, 3, none⟩ = some (.slice none 0 0) := by rw [Lib.cell_of_heap hpc]; rfl
  go_wp2_with fail
  refine wp_loop_rounds 1 ?_
  rw [rounds_succ]
  have d2 : w4.cell? ⟨p, 4, none⟩ = some (.slice none 0 0) := by rw [Lib.cell_of_heap hpc]; rfl
  go_wp2_with fail
  refine (HM.out _ ?_ _ hb4).mono ?_
  · have := HR.out; simp [magicB]; omega
  rintro e w5 ⟨rfl, hb5, hx5⟩
  have hwd := hwc.trans hx5
  have hpd := hwd.block hp hne (by decide)
  have e2 : w5.cell? ⟨p, 4, none⟩ = some (.slice none 0 0) := by rw [Lib.cell_of_heap hpd]; rfl
  go_wp2_with fail
  refine wp_loop_rounds 1 ?_
  rw [rounds_succ]
  have d3 : w5.cell? ⟨p, 5, none⟩ = some (.slice none 0 0) := by rw [Lib.cell_of_heap hpd]; rfl
  go_wp2_with fail
  refine (HM.out _ ?_ _ hb5).mono ?_
  · have := HR.out; simp [magicB]; omega
  rintro e w6 ⟨rfl, hb6, hx6⟩
  have hwe := hwd.trans hx6
  have hpe := hwe.block hp hne (by decide)
  have e3 : w6.cell? ⟨p, 5, none⟩ = some (.slice none 0 0) := by rw [Lib.cell_of_heap hpe]; rfl
  go_wp2_with fail
  refine wp_loop_rounds 1 ?_
  rw [rounds_succ]
  have d4 : w6.cell? ⟨p, 6, none⟩ = some (.slice none 0 0) := by rw [Lib.cell_of_heap hpe]; rfl
  go_wp2_with fail
  refine (HM.out _ ?_ _ hb6).mono ?_
  · have := HR.out; simp [magicB]; omega
  rintro e w7 ⟨rfl, hb7, hx7⟩
  have hwf := hwe.trans hx7
  have hpf := hwf.block hp hne (by decide)
  have e4 : w7.cell? ⟨p, 6, none⟩ = some (.slice none 0 0) := by rw [Lib.cell_of_heap hpf]; rfl
  go_wp2_with fail
  refine wp_loop_rounds 1 ?_
  rw [rounds_succ]
  go_wp2_with fail
  go_end0
  exact ⟨rfl, hb7, hwf⟩
end
section
open Go.RowKit
/-- a way that has come to its end within a region -/
theorem shut_way {X : Prop} {w : World} (h : X) (_ : wpAny Tryz.prog .any #[] (fun _ _ _ => True) 0 #[] { tmps := #[], defers := [] } w) : X := h
set_option maxRecDepth 100000 in
set_option maxHeartbeats 4000000 in
theorem part_bad (next begun : Int) (hr : numsE [next, begun] = none) (p B b : Nat) (w : World) (hb : Bld 74 B b [] w)
    (hp : w.heap[p]? = some (.cells (bareCs next begun) 28 (0, 0))) :
    Calls Tryz.prog 18 #[.pointer (some ⟨b, 0, none⟩), .pointer (some ⟨p, 0, none⟩)] w (WrOr 74 B b [] none w) := by
  have hne := hb.ne_of hp (by decide)
  have HW := Lib.hid (hb.writeS bt_snap magicB (by decide))
  have HN := Lib.hid (fun g w' hb' hg' => hr ▸ snum_any [next, begun] 2 #[.int .i64 next, .int .i64 begun] rfl rfl (by omega) g B b magicB (by decide) w' hb' hg')
  clear hr
  go_enter Tryz.func18, Tryz.ntmps18
  go_wp2_with fail
  refine (HW.out).mono ?_; rintro e w1 ⟨rfl, hb1, hw1⟩
  rw [List.nil_append] at hb1
  have hp1 := hw1.block hp hne (by decide)
  have c0 : w1.cell? ⟨p, 0, none⟩ = some (.int .i64 next) := by rw [Lib.cell_of_heap hp1]; rfl
  have c1 : w1.cell? ⟨p, 1, none⟩ = some (.int .i64 begun) := by rw [Lib.cell_of_heap hp1]; rfl
  go_wp2_with fail
  go_region_with ((go_at_call 38; (with_reducible refine (HN.out _ _ (hb1.alloc _).drew (heap_alloc_new w1 _)).mono ?_); rintro e w2 ⟨rfl, hb2⟩; refine shut_way (w := w) ⟨rfl, rfl, (((hw1.alloc hb1.1 _).drew).1).trans hb2⟩ ?_))
  all_goals trivial
/-- the bytes of a part without lists -/
def bareB (r : List UInt8) : List UInt8 := magicB ++ r ++ [0] ++ [0] ++ [0] ++ [0] ++ [0]
set_option maxRecDepth 100000 in
set_option maxHeartbeats 4000000 in
theorem bytes_bare (next begun : Int) (r : List UInt8) (hr : numsE [next, begun] = some r) (w : World) :
    Calls Tryz.prog 8 #[.agg (bareCs next begun)] w (Gives (.tuple #[.string ⟨(bareB r).toArray⟩, .int .i64 0]) w) := by
  have hrl := numsE_len _ _ hr
  have HP := Lib.hid (fun (p B b : Nat) (w : World) hb hp => part_bare next begun r hr hrl p B b w hb hp)
  have HT := Lib.hid (fun (B b : Nat) (o : List UInt8) (w : World) (h : Bld 74 B b o w) => h.text bt_snap)
  clear hr hrl
  have e1 : ((w.alloc (.cells (bareCs next begun) 28)).alloc (.cells #[.int .i64 0] 31)).heap.size = w.heap.size + 1 + 1 := by simp
  have hF := Bld.fresh 74 ((w.alloc (.cells (bareCs next begun) 28)).alloc (.cells #[.int .i64 0] 31))
  rw [e1] at hF
  have hp : (((w.alloc (.cells (bareCs next begun) 28)).alloc (.cells #[.int .i64 0] 31)).alloc (.cells #[.pointer none, .slice none 0 0] 74)).heap[w.heap.size]? = some (.cells (bareCs next begun) 28 (0, 0)) := by
    rw [Lib.alloc_old _ _ _ (by simp; omega), Lib.alloc_old _ _ _ (by simp)]; exact heap_alloc_new w _
  have he : (((w.alloc (.cells (bareCs next begun) 28)).alloc (.cells #[.int .i64 0] 31)).alloc (.cells #[.pointer none, .slice none 0 0] 74)).heap[w.heap.size + 1]? = some (.cells #[.int .i64 0] 31 (0, 0)) := by
    rw [Lib.alloc_old _ _ _ (by simp)]
    have := heap_alloc_new (w.alloc (.cells (bareCs next begun) 28)) (.cells #[.int .i64 0] 31)
    rwa [show (w.alloc (.cells (bareCs next begun) 28)).heap.size = w.heap.size + 1 by simp] at this
  have hB0 : Below w.heap.size w (((w.alloc (.cells (bareCs next begun) 28)).alloc (.cells #[.int .i64 0] 31)).alloc (.cells #[.pointer none, .slice none 0 0] 74)) :=
    (((Below.refl _ _).alloc (Nat.le_refl _) _).alloc (by simp) _).alloc (by simp; omega) _
  have HP1 := Lib.hid (HP.out w.heap.size _ _ _ hF hp)
  have HX := Lib.hid he
  clear hF hp he e1
  go_enter_defers Tryz.func8, Tryz.ntmps8
  go_wp2_with fail
  refine (HP1.out).mono ?_; rintro e w1 ⟨rfl, hb1, hw1⟩
  rw [List.nil_append] at hb1
  have hB1 := hB0.trans (hw1.1.mono (by omega))
  have he1 := hw1.block HX.out (by omega) (by decide)
  have hsz := hw1.size
  go_wp2_with fail
  refine (HT.out _ _ _ _ hb1).mono ?_; rintro e w2 ⟨rfl, hb2⟩
  have he2 := (hb2.block (w.heap.size + 1) (by omega)).trans he1
  have c0 : w2.cell? ⟨w.heap.size + 1, 0, none⟩ = some (.int .i64 0) := by rw [Lib.cell_of_heap he2]; rfl
  have f0 : w2.frozen? ⟨w.heap.size + 1, 0, none⟩ = false := Lib.frozen_of_heap he2 0
  go_wp2_with fail
  refine leaves_cons (f := 17) (args := #[.pointer (some ⟨w.heap.size + 1, 0, none⟩)]) (by simp) (by simp [go_sem]) ?_
  refine (caught_idle ⟨w.heap.size + 1, 0, none⟩ _).mono ?_
  rintro e u' w'' ⟨rfl, rfl, rfl⟩
  have hc2 : (w2.setCell ⟨w.heap.size + 1, 0, none⟩ (.int .i64 0)).cell? ⟨w.heap.size + 1, 0, none⟩ = some (.int .i64 0) := World.cell?_setCell_same _ _ _ c0
  have hfin : Below w.heap.size w (w2.setCell ⟨w.heap.size + 1, 0, none⟩ (.int .i64 0)) := (hB1.trans (hb2.mono (by omega))).setCell (p := ⟨w.heap.size + 1, 0, none⟩) (by simp) _
  simp [Leaves, settle, results, Tryz.results8, go_sem, hc2]
  exact ⟨by simp [bareB], hfin⟩
set_option maxRecDepth 100000 in
set_option maxHeartbeats 4000000 in
theorem bytes_bad (next begun : Int) (hr : numsE [next, begun] = none) (w : World) :
    Calls Tryz.prog 8 #[.agg (bareCs next begun)] w (Gives (.tuple #[.string ⟨#[]⟩, .int .i64 5]) w) := by
  have HP := Lib.hid (fun (p B b : Nat) (w : World) hb hp => part_bad next begun hr p B b w hb hp)
  clear hr
  have e1 : ((w.alloc (.cells (bareCs next begun) 28)).alloc (.cells #[.int .i64 0] 31)).heap.size = w.heap.size + 1 + 1 := by simp
  have hF := Bld.fresh 74 ((w.alloc (.cells (bareCs next begun) 28)).alloc (.cells #[.int .i64 0] 31))
  rw [e1] at hF
  have hp : (((w.alloc (.cells (bareCs next begun) 28)).alloc (.cells #[.int .i64 0] 31)).alloc (.cells #[.pointer none, .slice none 0 0] 74)).heap[w.heap.size]? = some (.cells (bareCs next begun) 28 (0, 0)) := by
    rw [Lib.alloc_old _ _ _ (by simp; omega), Lib.alloc_old _ _ _ (by simp)]; exact heap_alloc_new w _
  have he : (((w.alloc (.cells (bareCs next begun) 28)).alloc (.cells #[.int .i64 0] 31)).alloc (.cells #[.pointer none, .slice none 0 0] 74)).heap[w.heap.size + 1]? = some (.cells #[.int .i64 0] 31 (0, 0)) := by
    rw [Lib.alloc_old _ _ _ (by simp)]
    have := heap_alloc_new (w.alloc (.cells (bareCs next begun) 28)) (.cells #[.int .i64 0] 31)
    rwa [show (w.alloc (.cells (bareCs next begun) 28)).heap.size = w.heap.size + 1 by simp] at this
  have hB0 : Below w.heap.size w (((w.alloc (.cells (bareCs next begun) 28)).alloc (.cells #[.int .i64 0] 31)).alloc (.cells #[.pointer none, .slice none 0 0] 74)) :=
    (((Below.refl _ _).alloc (Nat.le_refl _) _).alloc (by simp) _).alloc (by simp; omega) _
  have HP1 := Lib.hid (HP.out w.heap.size _ _ _ hF hp)
  have HX := Lib.hid he
  clear hF hp he e1
  go_enter_defers Tryz.func8, Tryz.ntmps8
  go_wp2_with fail
  refine (HP1.out).mono ?_; rintro e w1 ⟨rfl, hb1⟩
  have hB1 := hB0.trans (hb1.mono (by omega))
  have he1 := (hb1.block (w.heap.size + 1) (by omega)).trans HX.out
  have c0 : w1.cell? ⟨w.heap.size + 1, 0, none⟩ = some (.int .i64 0) := by rw [Lib.cell_of_heap he1]; rfl
  have f0 : w1.frozen? ⟨w.heap.size + 1, 0, none⟩ = false := Lib.frozen_of_heap he1 0
  go_wp2_with fail
  refine leaves_cons (f := 17) (args := #[.pointer (some ⟨w.heap.size + 1, 0, none⟩)]) (by simp) (by simp [go_sem]) ?_
  refine (caught_up ⟨w.heap.size + 1, 0, none⟩ 5 0 _ c0 f0).mono ?_
  rintro e u' w'' ⟨rfl, rfl, rfl⟩
  have hc2 : (w1.setCell ⟨w.heap.size + 1, 0, none⟩ (.int .i64 5)).cell? ⟨w.heap.size + 1, 0, none⟩ = some (.int .i64 5) := World.cell?_setCell_same _ _ _ c0
  have hfin : Below w.heap.size w (w1.setCell ⟨w.heap.size + 1, 0, none⟩ (.int .i64 5)) := hB1.setCell (p := ⟨w.heap.size + 1, 0, none⟩) (by simp) _
  simp [Leaves, settle, results, Tryz.results8, go_sem, hc2]
  exact ⟨rfl, hfin⟩
end
section
open Go.RowKit
def StrsIn (S : Nat → Prop) (w : World) (l : List (List UInt8)) (v : Value) : Prop :=
  l.length ≤ 140737488355328 ∧ (∀ s ∈ l, s.length ≤ 140737488355328) ∧
  ((l = [] ∧ ∃ p c, v = .slice p 0 c) ∨ ∃ g off cap, v = .slice (some ⟨g, off, none⟩) l.length cap ∧ (S g ∧ g < w.heap.size) ∧ ∀ i, i < l.length → w.cell? ⟨g, off + i, none⟩ = some (.string ⟨(l.getD i []).toArray⟩))
/-- the cells of a value, so many deep; its blocks are all of the kind S -/
def ValIn (S : Nat → Prop) (w : World) : Nat → VT → Array Value → Prop
  | 0, _, _ => False
  | d + 1, v, cs => ∃ pn pi, cs = #[.int .i64 v.kind, .int .i64 v.num, .float .f64 v.flt, .string ⟨v.str.toArray⟩, pn, pi] ∧
      (-9223372036854775808 ≤ v.kind ∧ v.kind ≤ 9223372036854775807) ∧ (-9223372036854775808 ≤ v.num ∧ v.num ≤ 9223372036854775807) ∧ F64 v.flt ∧ v.str.length ≤ 140737488355328 ∧ StrsIn S w v.names pn ∧ v.items.length ≤ 140737488355328 ∧
      ((v.items = [] ∧ ∃ p c, pi = .slice p 0 c) ∨ ∃ g off cap, pi = .slice (some ⟨g, off, none⟩) v.items.length cap ∧ (S g ∧ g < w.heap.size) ∧
        ∀ i, i < v.items.length → ∃ ds, ValIn S w d (v.items.getD i noVT) ds ∧ ∀ j, j < 6 → w.cell? ⟨g, off + i * 6 + j, none⟩ = ds[j]?)
theorem cell_same {w w' : World} {g i : Nat} (h : w'.heap[g]? = w.heap[g]?) : w'.cell? ⟨g, i, none⟩ = w.cell? ⟨g, i, none⟩ := by
  unfold World.cell?
  simp only [h]
theorem StrsIn.at {S : Nat → Prop} {w : World} {l : List (List UInt8)} {v : Value} (h : StrsIn S w l v) : Strs w l v := by
  obtain ⟨h1, h2, h | ⟨g, off, cap, h3, h4, h5⟩⟩ := h
  · exact ⟨h1, h2, .inl h⟩
  · exact ⟨h1, h2, .inr ⟨g, off, cap, h3, h4.2, h5⟩⟩
theorem ValIn.at {S : Nat → Prop} {w : World} : ∀ {d : Nat} {v : VT} {cs : Array Value}, ValIn S w d v cs → ValAt w d v cs
  | 0, _, _, h => h.elim
  | d + 1, v, cs, h => by
    obtain ⟨pn, pi, h1, h2, h3, h4, h5, h6, h7, h8⟩ := h
    refine ⟨pn, pi, h1, h2, h3, h4, h5, h6.at, h7, ?_⟩
    rcases h8 with h8 | ⟨g, off, cap, a1, a2, a3⟩
    · exact .inl h8
    · refine .inr ⟨g, off, cap, a1, a2.2, fun i hi => ?_⟩
      obtain ⟨ds, b1, b2⟩ := a3 i hi
      exact ⟨ds, b1.at, b2⟩
/-- another kind that holds each of its blocks; another world that has them all as they were -/
theorem StrsIn.kept {S T : Nat → Prop} {w w' : World} (hs : w.heap.size ≤ w'.heap.size) (hk : ∀ g, S g → g < w.heap.size → T g ∧ w'.heap[g]? = w.heap[g]?) {l : List (List UInt8)} {v : Value} (h : StrsIn S w l v) : StrsIn T w' l v := by
  obtain ⟨h1, h2, h | ⟨g, off, cap, h3, h4, h5⟩⟩ := h
  · exact ⟨h1, h2, .inl h⟩
  · obtain ⟨k1, k2⟩ := hk g h4.1 h4.2
    exact ⟨h1, h2, .inr ⟨g, off, cap, h3, ⟨k1, Nat.lt_of_lt_of_le h4.2 hs⟩, fun i hi => (cell_same k2).trans (h5 i hi)⟩⟩
theorem ValIn.kept {S T : Nat → Prop} {w w' : World} (hs : w.heap.size ≤ w'.heap.size) (hk : ∀ g, S g → g < w.heap.size → T g ∧ w'.heap[g]? = w.heap[g]?) : ∀ {d : Nat} {v : VT} {cs : Array Value}, ValIn S w d v cs → ValIn T w' d v cs
  | 0, _, _, h => h.elim
  | d + 1, v, cs, h => by
    obtain ⟨pn, pi, h1, h2, h3, h4, h5, h6, h7, h8⟩ := h
    refine ⟨pn, pi, h1, h2, h3, h4, h5, h6.kept hs hk, h7, ?_⟩
    rcases h8 with h8 | ⟨g, off, cap, a1, a2, a3⟩
    · exact .inl h8
    · obtain ⟨k1, k2⟩ := hk g a2.1 a2.2
      refine .inr ⟨g, off, cap, a1, ⟨k1, Nat.lt_of_lt_of_le a2.2 hs⟩, fun i hi => ?_⟩
      obtain ⟨ds, b1, b2⟩ := a3 i hi
      exact ⟨ds, ValIn.kept hs hk b1, fun j hj => (cell_same k2).trans (b2 j hj)⟩
/-- behind a call that leaves all blocks but some as they are -/
theorem ValIn.fr {S : Nat → Prop} {w w' : World} {l : List Nat} (hf : Fr l w w') (hS : ∀ g ∈ l, ¬ S g) {d : Nat} {v : VT} {cs : Array Value} (h : ValIn S w d v cs) : ValIn S w' d v cs :=
  h.kept hf.size fun g hg hl => ⟨hg, hf.block g hl fun hm => hS g hm hg⟩
/-- a leaf -/
theorem ValIn.leaf {S : Nat → Prop} {w : World} {k n : Int} {f : Nat} {t : List UInt8} (hk : -9223372036854775808 ≤ k ∧ k ≤ 9223372036854775807) (hn : -9223372036854775808 ≤ n ∧ n ≤ 9223372036854775807) (hf : F64 f) (ht : t.length ≤ 140737488355328) (d : Nat) :
    ValIn S w (d + 1) (.mk k n f t [] []) #[.int .i64 k, .int .i64 n, .float .f64 f, .string ⟨t.toArray⟩, .slice none 0 0, .slice none 0 0] :=
  ⟨_, _, rfl, hk, hn, hf, ht, ⟨by simp [VT.names], (fun s hs => nomatch hs), .inl ⟨rfl, _, _, rfl⟩⟩, by simp [VT.items], .inl ⟨rfl, _, _, rfl⟩⟩
/-- what the codec's reader of values leaves -/
def RvPost (b : Nat) (s : ByteArray) (f : Nat) (w : World) (r : Option (VT × Nat × List UInt8)) (e : Ending) (w' : World) : Prop :=
  match r with
  | some v => ∃ cs, e = .returned (.agg cs) ∧ ValIn (fun g => w.heap.size ≤ g) w' f v.1 cs ∧ w'.heap[b]? = some (.cells #[.string s, .int .i64 (s.size - v.2.2.length : Nat), .int .i64 (v.2.1 : Nat)] 247 (0, 0)) ∧ Fr [b] w w'
  | none => (∃ x, x ≠ 0 ∧ e = .panicked [{ v := .iface 31 (.int .i64 x), recovered := false }]) ∧ Fr [b] w w'
end
section
open Go.RowKit
theorem ValAt.sixS {w : World} {d : Nat} {v : VT} {cs : Array Value} (h : ValAt w d v cs) : ∃ pp pc p cap, cs = #[.int .i64 v.kind, .int .i64 v.num, .float .f64 v.flt, .string ⟨v.str.toArray⟩, .slice pp v.names.length pc, .slice p v.items.length cap] := by
  cases d with
  | zero => exact h.elim
  | succ d =>
    obtain ⟨pn, p, cap, h0⟩ := h.six
    obtain ⟨a, b, h1, _, _, _, _, h6, _⟩ := h
    obtain ⟨pp, pc, hp⟩ := h6.lenOf
    have h2 := h0.symm.trans h1
    simp only [Array.mk.injEq, List.cons.injEq] at h2
    exact ⟨pp, pc, p, cap, by rw [h0, h2.2.2.2.2.1, hp]⟩
/-- the bytes of values, or none -/
def valsE : List VT → Option (List UInt8)
  | [] => some []
  | v :: l => if rightB v then preB (encV v) (valsE l) else none
theorem valsE_drop {l : List VT} {i : Nat} (h : i < l.length) : valsE (l.drop i) = if rightB (l.getD i noVT) then preB (encV (l.getD i noVT)) (valsE (l.drop (i + 1))) else none := by
  have e : l.getD i noVT = l[i] := by simp [List.getD, h]
  rw [List.drop_eq_getElem_cons h, valsE, e]
/-- the bytes of a value or none -/
def someE (v : VT) : Option (List UInt8) := if v.kind = 0 then (if bareV v false false false false then some [0] else none) else preB [1] (valsE [v])
/-- values in a row of their own, their memory in a world before -/
def ValsAt (u w : World) (d : Nat) (l : List VT) (g : Nat) : Prop := ∀ i, i < l.length → ∃ ds, ds.size = 6 ∧ ValAt u d (l.getD i noVT) ds ∧ ∀ j, j < 6 → w.cell? ⟨g, i * 6 + j, none⟩ = ds[j]?
set_option maxRecDepth 100000 in
set_option maxHeartbeats 4000000 in
theorem sval_any (l : List VT) (N d : Nat) (hN : l.length = N) (hl : N ≤ 20) (g B b : Nat) (o : List UInt8) (ho : o.length ≤ 90000000) (u w : World) (hu : u.heap.size ≤ B) (huw : Below u.heap.size u w) (hb : Bld 74 B b o w)
    (cs : Array Value) (hg : w.heap[g]? = some (.cells cs 57 (0, 0))) (hv : ValsAt u w d l g) :
    Calls Tryz.prog 41 #[.pointer (some ⟨b, 0, none⟩), .slice (some ⟨g, 0, none⟩) N N] w (WrOr 74 B b o (valsE l) w) := by
  have hne := hb.ne_of hg (by decide)
  have hsf : ∀ (a : Addr) (x : Nat) (m : Mode) (w : World), (store a (.float .f64 x) m).run Tryz.prog w = stored Tryz.prog w a (.float .f64 x) m := fun a x m w => run_store _ w a _ m rfl
  have HW := Lib.hid (fun (o : List UInt8) (w : World) (h : Bld 74 B b o w) (l : List UInt8) (hlen : o.length + l.length ≤ 100000000) => h.writeS bt_snap l hlen)
  have HMy := Lib.hid must_yes
  have HMn := Lib.hid must_no
  have HV := Lib.hid (fun d v cs w h => cValue_any d v cs w h)
  have HG := Lib.hid hg
  have HC := Lib.hid (fun (x : World) (h : Wrote B b w x) i j => (show x.cell? ⟨g, i * 6 + j, none⟩ = w.cell? ⟨g, i * 6 + j, none⟩ from cell_same ((h.block hg hne (by decide)).trans hg.symm)))
  have HU := Lib.hid huw
  have HVS := Lib.hid hv
  have HN := Lib.hid hN; clear hN hg hv
  go_enter Tryz.func41, Tryz.ntmps41
  go_wp2_with fail
  go_loopw [10] (fun iv wr => ∃ (i : Nat) (q : List UInt8), iv = .int .i64 (i : Int) ∧ i ≤ N ∧ q.length ≤ 60000 * i ∧ Hid (valsE l = preB q (valsE (l.drop i))) ∧ Bld 74 B b (o ++ q) wr ∧ Wrote B b w wr) (fun iv _ => N - (intOf iv).toNat)
  case atStart => exact ⟨0, [], rfl, by omega, by simp, by show _ = _; rw [preB_nil, List.drop_zero], by rw [List.append_nil]; exact hb, Wrote.refl _ _ _⟩
  case round =>
    obtain ⟨i, q, rfl, hi, hq, hE, hbd, hwr⟩ := hrel
    by_cases hlt : i < N
    · have t0 : decide ((i : Int) < (N : Int)) = true := by simp; omega
      have hlen : i < l.length := by rw [HN.out]; exact hlt
      obtain ⟨ds, hds, hva, hcl⟩ := HVS.out i hlen
      have HD := Lib.hid (valsE_drop hlen)
      clear hlen
      generalize l.getD i noVT = v at *
      obtain ⟨pp, pc, p, cap, rfl⟩ := hva.sixS
      have x0 := (HC.out _ hwr i 0).trans (hcl 0 (by omega)); have x1 := (HC.out _ hwr i 1).trans (hcl 1 (by omega)); have x2 := (HC.out _ hwr i 2).trans (hcl 2 (by omega)); have x3 := (HC.out _ hwr i 3).trans (hcl 3 (by omega)); have x4 := (HC.out _ hwr i 4).trans (hcl 4 (by omega)); have x5 := (HC.out _ hwr i 5).trans (hcl 5 (by omega))
      simp at x0 x1 x2 x3 x4 x5
      have hur : Below u.heap.size u wr := HU.out.trans (hwr.1.mono hu)
      have HVA := Lib.hid (hva.kept hur)
      have hA : Below wr.heap.size wr (wr.alloc (.cells #[.int .i64 v.kind, .int .i64 v.num, .float .f64 v.flt, .string ⟨v.str.toArray⟩, .slice pp v.names.length pc, .slice p v.items.length cap] 57)) := (Below.refl _ _).alloc (Nat.le_refl _) _
      have HVV := Lib.hid (cValue_any d v _ _ ((hva.kept hur).kept hA))
      have hbA := hbd.alloc (.cells #[.int .i64 v.kind, .int .i64 v.num, .float .f64 v.flt, .string ⟨v.str.toArray⟩, .slice pp v.names.length pc, .slice p v.items.length cap] 57)
      have hwA := hwr.alloc hbd.1 (.cells #[.int .i64 v.kind, .int .i64 v.num, .float .f64 v.flt, .string ⟨v.str.toArray⟩, .slice pp v.names.length pc, .slice p v.items.length cap] 57)
      have b1 : (0 : Int) ≤ (i : Int) := by omega
      have b2 : (i : Int) < (N : Int) := by omega
      clear hva hcl hds hur
      cases hrt : rightB v
      · rw [hrt] at HD
        have hcv : cvalT v = .tuple #[.string ⟨#[]⟩, .int .i64 5] := by rw [cvalT, hrt]; rfl
        rw [hcv] at HVV
        clear hcv hrt
        go_wp2_with fail
        refine (HVV.out).mono ?_; rintro e w2 ⟨rfl, hb2⟩
        go_wp2_with fail
        refine (HMn.out _).mono ?_; rintro e w3 ⟨rfl, rfl⟩
        go_wp2_with fail
        exact ⟨rfl, by rw [hE.out, HD.out]; exact ⟨rfl, (hwA.below hbA.1 hb2).1⟩⟩
      · rw [hrt] at HD
        have hcv : cvalT v = .tuple #[.string ⟨(encV v).toArray⟩, .int .i64 0] := by rw [cvalT, hrt]; rfl
        rw [hcv] at HVV
        have hel := rightB_len hrt
        clear hcv hrt
        generalize encV v = E at *
        have HL2 := Lib.hid (show (o ++ q).length + E.length ≤ 100000000 by simp; omega)
        go_wp2_with fail
        refine (HVV.out).mono ?_; rintro e w2 ⟨rfl, hb2⟩
        have hb3 := hbA.below hb2
        have hw3 := hwA.below hbA.1 hb2
        go_wp2_with fail
        refine (HMy.out _).mono ?_; rintro e w3 ⟨rfl, rfl⟩
        go_wp2_with fail
        refine (HW.out _ _ hb3 E HL2.out).mono ?_; rintro e w4 ⟨rfl, hb4, hw4⟩
        go_wp2_with fail
        go_roundw
        case rel => exact ⟨i + 1, q ++ E, by go_num, by omega, by simp; omega, by show _ = _; rw [hE.out, HD.out, preB_app]; rfl, by rw [← List.append_assoc]; exact hb4, hw3.trans hw4⟩
        case measure => simp [intOf]; omega
    · have t0 : decide ((i : Int) < (N : Int)) = false := by simp; omega
      have hE2 : valsE l = some q := by
        rw [hE.out, List.drop_eq_nil_of_le (by rw [HN.out]; omega)]; simp [valsE, preB]
      have HE := Lib.hid hE2; clear hE2
      go_wp2_with fail
      go_end0
      rw [HE.out]; exact ⟨rfl, hbd, hwr⟩
set_option maxRecDepth 100000 in
set_option maxHeartbeats 4000000 in
theorem ssome_any (v : VT) (d : Nat) (cs : Array Value) (B b : Nat) (o : List UInt8) (ho : o.length ≤ 89000000) (u w : World) (hu : u.heap.size ≤ B) (huw : Below u.heap.size u w) (hb : Bld 74 B b o w) (hv : ValAt u (d + 1) v cs) :
    Calls Tryz.prog 40 #[.pointer (some ⟨b, 0, none⟩), .agg cs] w (WrOr 74 B b o (someE v) w) := by
  obtain ⟨pp, pc, p, cap, rfl⟩ := hv.sixS
  have hsf : ∀ (a : Addr) (x : Nat) (m : Mode) (w : World), (store a (.float .f64 x) m).run Tryz.prog w = stored Tryz.prog w a (.float .f64 x) m := fun a x m w => run_store _ w a _ m rfl
  have hA : Below w.heap.size w (w.alloc (.cells #[.int .i64 v.kind, .int .i64 v.num, .float .f64 v.flt, .string ⟨v.str.toArray⟩, .slice pp v.names.length pc, .slice p v.items.length cap] 57)) := (Below.refl _ _).alloc (Nat.le_refl _) _
  have hnew : (w.alloc (.cells #[.int .i64 v.kind, .int .i64 v.num, .float .f64 v.flt, .string ⟨v.str.toArray⟩, .slice pp v.names.length pc, .slice p v.items.length cap] 57)).heap[w.heap.size]? = some (.cells #[.int .i64 v.kind, .int .i64 v.num, .float .f64 v.flt, .string ⟨v.str.toArray⟩, .slice pp v.names.length pc, .slice p v.items.length cap] 57 (0, 0)) := heap_alloc_new w _
  have hbA := hb.alloc (.cells #[.int .i64 v.kind, .int .i64 v.num, .float .f64 v.flt, .string ⟨v.str.toArray⟩, .slice pp v.names.length pc, .slice p v.items.length cap] 57)
  have hwA := (Wrote.refl B b w).alloc hb.1 (.cells #[.int .i64 v.kind, .int .i64 v.num, .float .f64 v.flt, .string ⟨v.str.toArray⟩, .slice pp v.names.length pc, .slice p v.items.length cap] 57)
  have huA : Below u.heap.size u (w.alloc (.cells #[.int .i64 v.kind, .int .i64 v.num, .float .f64 v.flt, .string ⟨v.str.toArray⟩, .slice pp v.names.length pc, .slice p v.items.length cap] 57)) := huw.trans (hA.mono huw.size)
  have hbn : w.heap.size ≠ b := by have := hb.lt.1; omega
  have hcell : ∀ j, (w.alloc (.cells #[.int .i64 v.kind, .int .i64 v.num, .float .f64 v.flt, .string ⟨v.str.toArray⟩, .slice pp v.names.length pc, .slice p v.items.length cap] 57)).cell? ⟨w.heap.size, j, none⟩ = (#[.int .i64 v.kind, .int .i64 v.num, .float .f64 v.flt, .string ⟨v.str.toArray⟩, .slice pp v.names.length pc, .slice p v.items.length cap] : Array Value)[j]? := fun j => by rw [Lib.cell_of_heap hnew]
  by_cases hk : v.kind = 0
  · have t1 : (v.kind == 0) = true := by rw [hk]; rfl
    have HR := Lib.hid (pRight_x d v _ _ hk _ (hv.kept huA))
    have HB0 := Lib.hid (hbA); have HWA := Lib.hid hwA
    have hE : someE v = if bareV v false false false false then some [0] else none := by rw [someE, if_pos hk]
    have HMy := Lib.hid must_yes
    have HMn := Lib.hid must_no
    have HW := Lib.hid (fun (o : List UInt8) (ho : o.length ≤ 100000000) (w : World) (h : Bld 74 B b o w) => h.write bt_snap ho 0)
    generalize bareV v false false false false = X at *
    clear hk hbA hwA huA hv hnew hA hcell hb
    cases X
    · have HE := Lib.hid hE; clear hE
      go_enter Tryz.func40, Tryz.ntmps40
      go_wp2_with fail
      refine (HR.out).mono ?_; rintro e w2 ⟨rfl, hb2⟩
      go_wp2_with fail
      refine (HMn.out _).mono ?_; rintro e w3 ⟨rfl, rfl⟩
      go_wp2_with fail
      exact ⟨rfl, by rw [HE.out]; exact ⟨rfl, (HWA.out.below HB0.out.1 hb2).1⟩⟩
    · have HE := Lib.hid hE; clear hE
      go_enter Tryz.func40, Tryz.ntmps40
      go_wp2_with fail
      refine (HR.out).mono ?_; rintro e w2 ⟨rfl, hb2⟩
      go_wp2_with fail
      refine (HMy.out _).mono ?_; rintro e w3 ⟨rfl, rfl⟩
      go_wp2_with fail
      refine (HW.out o (by omega) _ (HB0.out.below hb2)).mono ?_; rintro e w4 ⟨rfl, hb4, hw4⟩
      go_wp2_with fail
      go_end0
      rw [HE.out]
      exact ⟨rfl, hb4, (HWA.out.below HB0.out.1 hb2).trans hw4⟩
  · have t1 : (v.kind == 0) = false := beq_eq_false_iff_ne.2 hk
    have hE : someE v = preB [1] (valsE [v]) := by rw [someE, if_neg hk]
    have HW := Lib.hid (fun (o : List UInt8) (ho : o.length ≤ 100000000) (w : World) (h : Bld 74 B b o w) => h.write bt_snap ho 1)
    have HB0 := Lib.hid (hbA); have HWA := Lib.hid hwA
    have HC := Lib.hid (fun (x : World) (h : Wrote B b (w.alloc (.cells #[.int .i64 v.kind, .int .i64 v.num, .float .f64 v.flt, .string ⟨v.str.toArray⟩, .slice pp v.names.length pc, .slice p v.items.length cap] 57)) x) j => (show x.cell? ⟨w.heap.size, j, none⟩ = (#[.int .i64 v.kind, .int .i64 v.num, .float .f64 v.flt, .string ⟨v.str.toArray⟩, .slice pp v.names.length pc, .slice p v.items.length cap] : Array Value)[j]? from by rw [Lib.cell_of_heap (h.block hnew hbn (by decide))]))
    have HVV := Lib.hid (fun (x : World) (h : Below u.heap.size u x) (hb : Bld 74 B b (o ++ [1]) x) => sval_any [v] 1 (d + 1) rfl (by omega) x.heap.size B b (o ++ [1]) (by simp; omega) u (x.alloc (.cells #[.int .i64 v.kind, .int .i64 v.num, .float .f64 v.flt, .string ⟨v.str.toArray⟩, .slice pp v.names.length pc, .slice p v.items.length cap] 57)) hu (h.trans (((Below.refl _ _).alloc (Nat.le_refl _) _).mono h.size)) (hb.alloc _) #[.int .i64 v.kind, .int .i64 v.num, .float .f64 v.flt, .string ⟨v.str.toArray⟩, .slice pp v.names.length pc, .slice p v.items.length cap] (heap_alloc_new x _) (fun i hi => by
      have hi0 : i = 0 := by simpa using hi
      subst hi0
      exact ⟨#[.int .i64 v.kind, .int .i64 v.num, .float .f64 v.flt, .string ⟨v.str.toArray⟩, .slice pp v.names.length pc, .slice p v.items.length cap], rfl, hv, fun j hj => by rw [Nat.zero_mul, Nat.zero_add, Lib.cell_of_heap (heap_alloc_new x _)]⟩))
    have HU := Lib.hid (fun (x : World) (h : Wrote B b (w.alloc (.cells #[.int .i64 v.kind, .int .i64 v.num, .float .f64 v.flt, .string ⟨v.str.toArray⟩, .slice pp v.names.length pc, .slice p v.items.length cap] 57)) x) => (show Below u.heap.size u x from huA.trans (h.1.mono hu)))
    have HE := Lib.hid hE
    clear hk hbA hwA huA hv hnew hA hE hb
    generalize valsE [v] = V at *
    go_enter Tryz.func40, Tryz.ntmps40
    go_wp2_with fail
    refine (HW.out o (by omega) _ (HB0.out)).mono ?_; rintro e w2 ⟨rfl, hb2, hw2⟩
    have x0 := HC.out _ hw2 0; have x1 := HC.out _ hw2 1; have x2 := HC.out _ hw2 2; have x3 := HC.out _ hw2 3; have x4 := HC.out _ hw2 4; have x5 := HC.out _ hw2 5
    simp at x0 x1 x2 x3 x4 x5
    clear hcell
    go_wp2_with fail
    refine (HVV.out _ (HU.out _ hw2) hb2).mono ?_
    rw [HE.out]
    intro e w3 h3
    cases V with
    | none =>
      obtain ⟨rfl, h3⟩ := h3
      go_wp2_with fail
      exact ⟨rfl, rfl, (HWA.out.1.trans hw2.1).trans (((Below.refl _ _).alloc hb2.1 _).trans h3)⟩
    | some q =>
      obtain ⟨rfl, hb3, hw3⟩ := h3
      go_wp2_with fail
      go_end0
      rw [HE.out]
      refine ⟨rfl, ?_, (HWA.out.trans hw2).trans (((Wrote.refl _ _ _).alloc hb2.1 _).trans hw3)⟩
      rw [← List.append_assoc]; exact hb3
end
section
open Go.RowKit
set_option maxRecDepth 100000 in
set_option maxHeartbeats 1000000 in
theorem cmust_yes (x : Int) (w : World) : Calls Tryz.prog 118 #[.bool true, .int .i64 x] w fun e w' => e = .returned (.tuple #[]) ∧ w = w' := by
  go_enter Tryz.func118, Tryz.ntmps118
  go_wp2_with fail
  go_end0
  exact ⟨rfl, rfl⟩
set_option maxRecDepth 100000 in
set_option maxHeartbeats 1000000 in
theorem cmust_no (x : Int) (w : World) : Calls Tryz.prog 118 #[.bool false, .int .i64 x] w fun e w' => e = gave x ∧ w = w' := by
  go_enter Tryz.func118, Tryz.ntmps118
  go_wp2_with fail
  exact ⟨rfl, rfl, rfl⟩
/-- the codec's reader: its text, its place, how many parts were begun -/
def RdB (b : Nat) (s : ByteArray) (k q : Nat) (w : World) : Prop := w.heap[b]? = some (.cells #[.string s, .int .i64 k, .int .i64 q] 247 (0, 0))
theorem RdB.c0 {b : Nat} {s : ByteArray} {k q : Nat} {w : World} (h : RdB b s k q w) : w.cell? ⟨b, 0, none⟩ = some (.string s) := by rw [Lib.cell_of_heap h]; rfl
theorem RdB.c1 {b : Nat} {s : ByteArray} {k q : Nat} {w : World} (h : RdB b s k q w) : w.cell? ⟨b, 1, none⟩ = some (.int .i64 k) := by rw [Lib.cell_of_heap h]; rfl
theorem RdB.c2 {b : Nat} {s : ByteArray} {k q : Nat} {w : World} (h : RdB b s k q w) : w.cell? ⟨b, 2, none⟩ = some (.int .i64 q) := by rw [Lib.cell_of_heap h]; rfl
theorem RdB.fz {b : Nat} {s : ByteArray} {k q : Nat} {w : World} (h : RdB b s k q w) (i : Nat) : w.frozen? ⟨b, i, none⟩ = false := Lib.frozen_of_heap h i
theorem RdB.put1 {b : Nat} {s : ByteArray} {k q : Nat} {w : World} (h : RdB b s k q w) (c : Nat) : RdB b s c q (w.setCell ⟨b, 1, none⟩ (.int .i64 c)) := heap_setN h 1 _
theorem RdB.put2 {b : Nat} {s : ByteArray} {k q : Nat} {w : World} (h : RdB b s k q w) (c : Nat) : RdB b s k c (w.setCell ⟨b, 2, none⟩ (.int .i64 c)) := heap_setN h 2 _
theorem RdB.drewN {b : Nat} {s : ByteArray} {k q : Nat} {w : World} (h : RdB b s k q w) (n : Nat) : RdB b s k q (w.drewN n) := h
theorem RdB.drew {b : Nat} {s : ByteArray} {k q : Nat} {w : World} (h : RdB b s k q w) : RdB b s k q w.drew := h
theorem RdB.lt {b : Nat} {s : ByteArray} {k q : Nat} {w : World} (h : RdB b s k q w) : b < w.heap.size := lt_of_block h
set_option maxRecDepth 100000 in
set_option maxHeartbeats 4000000 in
theorem cbyte_no (s : ByteArray) (b k q : Nat) (hk : s.size ≤ k) (w : World) (hb : RdB b s k q w) :
    Calls Tryz.prog 143 #[.pointer (some ⟨b, 0, none⟩)] w fun e w' => e = gave 14 ∧ Fr [b] w w' := by
  have c0 := hb.c0; have c1 := hb.c1
  have t1 : decide ((k : Int) < (s.size : Int)) = false := by simp; omega
  have t2 : decide (k < s.size) = false := by simp; omega
  have HM := Lib.hid (cmust_no 14)
  clear hk
  go_enter Tryz.func143, Tryz.ntmps143
  go_wp2_with fail
  go_region_with ((go_at_call 118; (with_reducible refine (HM.out _).mono ?_); rintro e w2 ⟨rfl, rfl⟩; refine shut_way (w := w) ⟨rfl, rfl, (Fr.refl [b] w).drew⟩ ?_))
  all_goals trivial
set_option maxRecDepth 100000 in
set_option maxHeartbeats 4000000 in
theorem cbyte_yes (s : ByteArray) (hs : s.size ≤ 100000000) (b k q : Nat) (hk : k < s.size) (w : World) (hb : RdB b s k q w) :
    Calls Tryz.prog 143 #[.pointer (some ⟨b, 0, none⟩)] w fun e w' => e = .returned (.int .u8 (s[k]'hk).toNat) ∧ RdB b s (k + 1) q w' ∧ Fr [b] w w' := by
  have c0 := hb.c0; have c1 := hb.c1; have f1 := hb.fz 1
  have t1 : decide ((k : Int) < (s.size : Int)) = true := by simp; omega
  have HM := Lib.hid (cmust_yes 14)
  go_enter Tryz.func143, Tryz.ntmps143
  go_wp2_with fail
  go_quiet (refine Calls.quiet_of_same ((HM.out _).mono fun _ _ h => ⟨h.1, h.2.symm⟩))
  go_wp2_with fail
  have A1 : RdB b s (k + 1) q ((w.drewN nq).setCell ⟨b, 1, none⟩ (.int .i64 ((k : Int) + 1))) := (hb.drewN nq).put1 (k + 1)
  have A2 := ((Fr.refl [b] w).drewN nq).setCell ⟨b, 1, none⟩ (by simp) (.int .i64 ((k : Int) + 1))
  have w1 : IntKind.i64.wrap ((k : Int) + 1 - 1) = (k : Int) := by rw [IntKind.wrap_i64]; omega
  have w2 : IntKind.i64.wrap (k : Int) = (k : Int) := by rw [IntKind.wrap_i64]; omega
  have b1 : (0 : Int) ≤ (k : Int) := by omega
  have b2 : (k : Int) < (s.size : Int) := by omega
  clear c0 c1 f1 t1
  generalize (w.drewN nq).setCell ⟨b, 1, none⟩ (.int .i64 ((k : Int) + 1)) = W2 at *
  have c0 := A1.c0; have c1 := A1.c1
  generalize hk1 : k + 1 = k1 at A1 c1
  have e1 : (k1 : Int) = (k : Int) + 1 := by omega
  rw [e1] at c1
  subst hk1
  clear e1
  go_quiet (fail)
  go_wp2_with fail
  go_ret
  exact ⟨rfl, A1.drewN _, A2.drewN _⟩
end
end Go.Proofs.YtnaamiecljinnaaGreat
