/-
  U8 in one text.
-/
import Derived.ArgAppend
import Derived.Below
import Derived.BigQuiet
import Derived.Deep.AppendLies
import Derived.Deep.Cut
import Derived.Deep.CutBlock
import Derived.Deep.DeepCutAuto
import Derived.Deep.QuietTactic
import Derived.Deep.RegionHeld3
import Derived.Deep.RegionLaw
import Derived.Deep.RegionWith
import Derived.Deep.Upon
import Derived.Defers
import Derived.Handy
import Derived.IntWalk
import Derived.Laws.Bits64b
import Derived.Laws.FloatBits
import Derived.Laws.OwnMore
import Derived.Lib.AtoiAll
import Derived.Lib.Builder
import Derived.Lib.Bytes
import Derived.Lib.ConvBytes
import Derived.Lib.FrozenHead2
import Derived.Lib.Hide
import Derived.Lib.IndexMore
import Derived.Lib.ItoaNum
import Derived.Lib.MinMax
import Derived.Lib.OthersKept
import Derived.Lib.ParseIntB
import Derived.Lib.UnsafeStr
import Derived.LoopTactic
import Derived.OneCell
import Derived.OwnWalk
import Derived.Recover
import Derived.RegionTactic
import Derived.Shelf.Abstract
import Derived.StillTailTactics
import Derived.Tactics
import Derived.Tactics2
import Derived.Test.YtnaamiecljinnaaGreatChecked
import Derived.WalkKit
import Derived.WalkLawsBesides
import Derived.WalkSpells
import Ieee.Arith
import Derived.Test.YtnaamiecljinnaaGreatS00
import Derived.Test.YtnaamiecljinnaaGreatS01
import Derived.Test.YtnaamiecljinnaaGreatS02
import Derived.Test.YtnaamiecljinnaaGreatS08
import Derived.Test.YtnaamiecljinnaaGreatS16
import Derived.Test.YtnaamiecljinnaaGreatS18
import Derived.Test.YtnaamiecljinnaaGreatS28
import Derived.Test.YtnaamiecljinnaaGreatS33
namespace Go.Proofs.YtnaamiecljinnaaGreat
open Go.RowKit
theorem its_next {so : Bool} {l : List It} {i : Nat} (h : i < l.length) : itsE so (l.drop i) = catO (itE so (l.getD i ([], []))) (itsE so (l.drop (i + 1))) := by
  have e : l.getD i ([], []) = l[i] := by simp [List.getD, h]
  rw [List.drop_eq_getElem_cons h, itsE, e]
theorem vals_two (v v2 : VT) : valsE [v, v2] = catO (valsE [v]) (valsE [v2]) := by
  unfold valsE
  cases rightB v
  · rfl
  · show preB (encV v) (valsE [v2]) = preB (encV v ++ []) (valsE [v2])
    rw [List.append_nil]
theorem catO_id (o : Option (List UInt8)) : catO (some []) o = o := preB_nil o
theorem catO_end (o : Option (List UInt8)) : catO o (some []) = o := by
  cases o with
  | none => rfl
  | some l => show some (l ++ []) = _; rw [List.append_nil]
/-- what the references' Bytes answers -/
def rbytesT (o : Option (List UInt8)) : Value := match o with
  | some l => .tuple #[.string ⟨l.toArray⟩, .bool true]
  | none => .tuple #[.string ⟨#[]⟩, .bool false]
theorem part_many {P : PartT} (h : 500 < P.waits.length ∨ 500 < P.spots.length ∨ 500 < P.puts.length ∨ 500 < P.letters.length ∨ 500 < P.audits.length) : partE P = none := by
  have hm : ∀ (so : Bool) (l : List It), 500 < l.length → listE so l = none := fun so l h => by
    unfold listE manyE
    rw [if_neg (by omega)]; rfl
  unfold partE
  rcases h with h | h | h | h | h
  · rw [hm _ _ h]; simp only [catO_none, catO_nr, preB_none]
  · rw [hm _ _ h]; simp only [catO_none, catO_nr, preB_none]
  · rw [hm _ _ h]; simp only [catO_none, catO_nr, preB_none]
  · rw [hm _ _ h]; simp only [catO_none, catO_nr, preB_none]
  · rw [hm _ _ h]; simp only [catO_none, catO_nr, preB_none]
set_option maxRecDepth 100000 in
set_option maxHeartbeats 32000000 in
theorem rBytes_any (P : PartT) (d : Nat) (cs : Array Value) (w : World) (hpa : PartAt w (d + 1) P cs) :
    Calls Tryz.prog 9 #[.agg cs] w (Gives (rbytesT (partE P)) w) := by
  have hsf : ∀ (a : Addr) (x : Nat) (m : Mode) (w : World), (store a (.float .f64 x) m).run Tryz.prog w = stored Tryz.prog w a (.float .f64 x) m := fun a x m w => run_store _ w a _ m rfl
  obtain ⟨_, _, _, _, _, rfl, ⟨s0, c0', rfl, hl0, hi0⟩, ⟨s1, c1', rfl, hl1, hi1⟩, ⟨s2, c2', rfl, hl2, hi2⟩, ⟨s3, c3', rfl, hl3, hi3⟩, ⟨s4, c4', rfl, hl4, hi4⟩⟩ := hpa
  have hpm := part_many (P := P)
  have HIT0 := Lib.hid hi0
  generalize hN0 : P.waits.length = N0 at *
  have HN0 := Lib.hid hN0
  clear hi0 hN0 hl0
  have HIT1 := Lib.hid hi1
  generalize hN1 : P.spots.length = N1 at *
  have HN1 := Lib.hid hN1
  clear hi1 hN1 hl1
  have HIT2 := Lib.hid hi2
  generalize hN2 : P.puts.length = N2 at *
  have HN2 := Lib.hid hN2
  clear hi2 hN2 hl2
  have HIT3 := Lib.hid hi3
  generalize hN3 : P.letters.length = N3 at *
  have HN3 := Lib.hid hN3
  clear hi3 hN3 hl3
  have HIT4 := Lib.hid hi4
  generalize hN4 : P.audits.length = N4 at *
  have HN4 := Lib.hid hN4
  clear hi4 hN4 hl4
  have HPM := Lib.hid hpm; clear hpm
  have hPE : partE P = catO (some magicB) (catO (numsE [P.next, P.begun]) (catO (listE true P.waits) (catO (listE false P.spots) (catO (listE false P.puts) (catO (listE false P.letters) (catO (listE false P.audits) (some []))))))) := rfl
  generalize partE P = PE at *
  have HPE := Lib.hid hPE; clear hPE
  have hB1 : Below w.heap.size w (w.alloc (.cells #[.int .i64 P.next, .int .i64 P.begun, .slice s0 N0 c0', .slice s1 N1 c1', .slice s2 N2 c2', .slice s3 N3 c3', .slice s4 N4 c4'] 28)) := (Below.refl _ _).alloc (Nat.le_refl _) _
  have hB : Below w.heap.size w ((w.alloc (.cells #[.int .i64 P.next, .int .i64 P.begun, .slice s0 N0 c0', .slice s1 N1 c1', .slice s2 N2 c2', .slice s3 N3 c3', .slice s4 N4 c4'] 28)).alloc (.cells #[.string ⟨#[83, 78, 80, 49]⟩, .bool false] 80)) := hB1.alloc hB1.size _
  have e1 : (w.alloc (.cells #[.int .i64 P.next, .int .i64 P.begun, .slice s0 N0 c0', .slice s1 N1 c1', .slice s2 N2 c2', .slice s3 N3 c3', .slice s4 N4 c4'] 28)).heap.size = w.heap.size + 1 := by simp
  have hnP : ((w.alloc (.cells #[.int .i64 P.next, .int .i64 P.begun, .slice s0 N0 c0', .slice s1 N1 c1', .slice s2 N2 c2', .slice s3 N3 c3', .slice s4 N4 c4'] 28)).alloc (.cells #[.string ⟨#[83, 78, 80, 49]⟩, .bool false] 80)).heap[w.heap.size]? = some (.cells #[.int .i64 P.next, .int .i64 P.begun, .slice s0 N0 c0', .slice s1 N1 c1', .slice s2 N2 c2', .slice s3 N3 c3', .slice s4 N4 c4'] 28 (0, 0)) := by
    rw [Lib.alloc_old _ _ _ (by simp)]; exact heap_alloc_new w _
  have hnO : ((w.alloc (.cells #[.int .i64 P.next, .int .i64 P.begun, .slice s0 N0 c0', .slice s1 N1 c1', .slice s2 N2 c2', .slice s3 N3 c3', .slice s4 N4 c4'] 28)).alloc (.cells #[.string ⟨#[83, 78, 80, 49]⟩, .bool false] 80)).heap[w.heap.size + 1]? = some (.cells #[.string ⟨#[83, 78, 80, 49]⟩, .bool false] 80 (0, 0)) := by
    have := heap_alloc_new (w.alloc (.cells #[.int .i64 P.next, .int .i64 P.begun, .slice s0 N0 c0', .slice s1 N1 c1', .slice s2 N2 c2', .slice s3 N3 c3', .slice s4 N4 c4'] 28)) (.cells #[.string ⟨#[83, 78, 80, 49]⟩, .bool false] 80)
    rwa [e1] at this
  have hO0 : OutAt (w.heap.size + 1) 4 (some magicB) ((w.alloc (.cells #[.int .i64 P.next, .int .i64 P.begun, .slice s0 N0 c0', .slice s1 N1 c1', .slice s2 N2 c2', .slice s3 N3 c3', .slice s4 N4 c4'] 28)).alloc (.cells #[.string ⟨#[83, 78, 80, 49]⟩, .bool false] 80)) :=
    ⟨_, _, hnO, by decide, (fun l h => by cases h; exact ⟨rfl, rfl⟩), (fun h => nomatch h)⟩
  have HWb := Lib.hid (show w.heap.size ≤ w.heap.size + 1 from Nat.le_succ _)
  have hne : w.heap.size ∉ [w.heap.size + 1] := by simp
  go_enter Tryz.func9, Tryz.ntmps9
  go_upto_region 2 with (fail)
  generalize (w.alloc (.cells #[.int .i64 P.next, .int .i64 P.begun, .slice s0 N0 c0', .slice s1 N1 c1', .slice s2 N2 c2', .slice s3 N3 c3', .slice s4 N4 c4'] 28)).alloc (.cells #[.string ⟨#[83, 78, 80, 49]⟩, .bool false] 80) = W1 at *
  have HPart := Lib.hid hnP
  have HUr := Lib.hid (fun x (h : Fr [w.heap.size + 1] W1 x) => (show Below w.heap.size w x from hB.trans (h.below hB.size (by simp))))
  clear hnP hnO hB1 e1
  generalize hb : w.heap.size + 1 = b at *
  clear hb
  generalize hgh : w.heap.size = H at *
  have HH := Lib.hid hgh; clear hgh
  have HUw := Lib.hid (fun x h => (show Below w.heap.size w x by rw [HH.out]; exact HUr.out x h))
  have HWc := Lib.hid (show w.heap.size ≤ b by rw [HH.out]; exact HWb.out)
  have d0 : W1.cell? ⟨H, 0, none⟩ = some (.int .i64 P.next) := by rw [Lib.cell_of_heap HPart.out]; rfl
  have d1 : W1.cell? ⟨H, 1, none⟩ = some (.int .i64 P.begun) := by rw [Lib.cell_of_heap HPart.out]; rfl
  have d2 : W1.cell? ⟨H, 2, none⟩ = some (.slice s0 N0 c0') := by rw [Lib.cell_of_heap HPart.out]; rfl
  have d3 : W1.cell? ⟨H, 3, none⟩ = some (.slice s1 N1 c1') := by rw [Lib.cell_of_heap HPart.out]; rfl
  have d4 : W1.cell? ⟨H, 4, none⟩ = some (.slice s2 N2 c2') := by rw [Lib.cell_of_heap HPart.out]; rfl
  have d5 : W1.cell? ⟨H, 5, none⟩ = some (.slice s3 N3 c3') := by rw [Lib.cell_of_heap HPart.out]; rfl
  have d6 : W1.cell? ⟨H, 6, none⟩ = some (.slice s4 N4 c4') := by rw [Lib.cell_of_heap HPart.out]; rfl
  go_cut [44] (fun v wx => ∃ bb, v = .bool bb ∧ IffB bb (500 < N0 ∨ 500 < N1 ∨ 500 < N2 ∨ 500 < N3 ∨ 500 < N4) ∧ W1 = wx)
  case first =>
    clear HPM
    by_cases n0 : 500 < N0
    · have m0 : decide ((500 : Int) < (N0 : Int)) = true := by simp; omega
      have hx : IffB true (500 < N0 ∨ 500 < N1 ∨ 500 < N2 ∨ 500 < N3 ∨ 500 < N4) := Iff.intro (fun _ => by omega) (fun _ => rfl)
      go_wp2_with fail
      go_meet
      exact ⟨_, rfl, hx, rfl⟩
    · have m0 : decide ((500 : Int) < (N0 : Int)) = false := by simp; omega
      by_cases n1 : 500 < N1
      · have m1 : decide ((500 : Int) < (N1 : Int)) = true := by simp; omega
        have hx : IffB true (500 < N0 ∨ 500 < N1 ∨ 500 < N2 ∨ 500 < N3 ∨ 500 < N4) := Iff.intro (fun _ => by omega) (fun _ => rfl)
        go_wp2_with fail
        go_meet
        exact ⟨_, rfl, hx, rfl⟩
      · have m1 : decide ((500 : Int) < (N1 : Int)) = false := by simp; omega
        by_cases n2 : 500 < N2
        · have m2 : decide ((500 : Int) < (N2 : Int)) = true := by simp; omega
          have hx : IffB true (500 < N0 ∨ 500 < N1 ∨ 500 < N2 ∨ 500 < N3 ∨ 500 < N4) := Iff.intro (fun _ => by omega) (fun _ => rfl)
          go_wp2_with fail
          go_meet
          exact ⟨_, rfl, hx, rfl⟩
        · have m2 : decide ((500 : Int) < (N2 : Int)) = false := by simp; omega
          by_cases n3 : 500 < N3
          · have m3 : decide ((500 : Int) < (N3 : Int)) = true := by simp; omega
            have hx : IffB true (500 < N0 ∨ 500 < N1 ∨ 500 < N2 ∨ 500 < N3 ∨ 500 < N4) := Iff.intro (fun _ => by omega) (fun _ => rfl)
            go_wp2_with fail
            go_meet
            exact ⟨_, rfl, hx, rfl⟩
          · have m3 : decide ((500 : Int) < (N3 : Int)) = false := by simp; omega
            by_cases n4 : 500 < N4
            · have m4 : decide ((500 : Int) < (N4 : Int)) = true := by simp; omega
              have hx : IffB true (500 < N0 ∨ 500 < N1 ∨ 500 < N2 ∨ 500 < N3 ∨ 500 < N4) := Iff.intro (fun _ => by omega) (fun _ => rfl)
              go_wp2_with fail
              go_meet
              exact ⟨_, rfl, hx, rfl⟩
            · have m4 : decide ((500 : Int) < (N4 : Int)) = false := by simp; omega
              have hx : IffB false (500 < N0 ∨ 500 < N1 ∨ 500 < N2 ∨ 500 < N3 ∨ 500 < N4) := Iff.intro (fun h => nomatch h) (fun h => absurd h (by omega))
              go_wp2_with fail
              go_meet
              exact ⟨_, rfl, hx, rfl⟩
  case rest =>
    obtain ⟨bb, rfl, hbb, hw⟩ := hcut
    subst hw
    cases bb with
    | true =>
      have HX := Lib.hid (HPM.out (hbb.to.1 rfl))
      clear hbb
      go_wp2_with fail
      go_ret2
      exact ⟨ret_val (by rw [HX.out]; rfl), by rw [HH.out]; exact hB⟩
    | false =>
    have hall : ¬ (500 < N0 ∨ 500 < N1 ∨ 500 < N2 ∨ 500 < N3 ∨ 500 < N4) := fun h => by have := hbb.to.2 h; cases this
    have l0 : N0 ≤ 500 := by omega
    have l1 : N1 ≤ 500 := by omega
    have l2 : N2 ≤ 500 := by omega
    have l3 : N3 ≤ 500 := by omega
    have l4 : N4 ≤ 500 := by omega
    clear hall hbb HPM
    have hA0 := hO0.below ((Below.refl _ _).alloc (Nat.le_refl _) (.cells #[.int .i64 P.next, .int .i64 P.begun] 3))
    have HN := Lib.hid (onum_any [P.next, P.begun] 2 #[.int .i64 P.next, .int .i64 P.begun] rfl rfl (by omega) W1.heap.size b 4 (some magicB) (by omega) _ hA0 (heap_alloc_new W1 _))
    have hFa := (Fr.refl [b] W1).alloc (.cells #[.int .i64 P.next, .int .i64 P.begun] 3)
    clear hA0 hO0
    go_wp2_with fail
    refine (HN.out).mono ?_; rintro e w0 ⟨rfl, hO0, hF0a⟩
    have hF0 := hFa.trans hF0a
    clear hFa hF0a d0 d1 d2 d3 d4 d5 d6
    have HP0 : Hid (PE = catO (catO (some magicB) (numsE [P.next, P.begun])) (catO (listE true P.waits) (catO (listE false P.spots) (catO (listE false P.puts) (catO (listE false P.letters) (catO (listE false P.audits) (some []))))))) := by show _ = _; rw [HPE.out, catO_assoc]
    clear HPE
    generalize catO (some magicB) (numsE [P.next, P.begun]) = o0 at *
    have hp0 := hF0.at HPart.out hne
    have d0 : w0.cell? ⟨H, 2, none⟩ = some (.slice s0 N0 c0') := by rw [Lib.cell_of_heap hp0]; rfl
    have HM0 := Lib.hid (omany_any (N0 : Int) b 24 o0 (by omega) w0 hO0)
    go_wp2_with fail
    refine (HM0.out).mono ?_; rintro e wm ⟨rfl, hOm, hFm⟩
    have hFm' := hF0.trans hFm
    have hpm := hFm'.at HPart.out hne
    have dm : wm.cell? ⟨H, 2, none⟩ = some (.slice s0 N0 c0') := by rw [Lib.cell_of_heap hpm]; rfl
    have hI0 : Hid (PE = catO (catO o0 (manyE (N0 : Int))) (catO (itsE true (P.waits.drop 0)) (catO (listE false P.spots) (catO (listE false P.puts) (catO (listE false P.letters) (catO (listE false P.audits) (some []))))))) := by show _ = _; rw [HP0.out, listE, HN0.out, List.drop_zero, catO_assoc, catO_assoc]
    generalize catO o0 (manyE (N0 : Int)) = q0 at *
    clear hp0 d0 hO0 hF0 hFm HM0 HP0
    go_wp2_with fail
    clear dm
    go_loopw [5] (fun iv wr => ∃ (i : Nat) (q : Option (List UInt8)), iv = .int .i64 (i : Int) ∧ i ≤ N0 ∧ Hid (PE = catO q (catO (itsE true (P.waits.drop i)) (catO (listE false P.spots) (catO (listE false P.puts) (catO (listE false P.letters) (catO (listE false P.audits) (some []))))))) ∧ OutAt b (34 + 200000 * i) q wr ∧ Fr [b] W1 wr) (fun iv _ => N0 - (intOf iv).toNat)
    case atStart => exact ⟨0, _, rfl, by omega, hI0, hOm, hFm'⟩
    case round =>
      clear hOm hFm' hpm hI0
      obtain ⟨i, q, rfl, hi, hI, hbd, hwr⟩ := hrel
      have hpr := hwr.at HPart.out hne
      have dr : wr.cell? ⟨H, 2, none⟩ = some (.slice s0 N0 c0') := by rw [Lib.cell_of_heap hpr]; rfl
      clear hpr
      by_cases hlt : i < N0
      · have t0 : decide ((i : Int) < (N0 : Int)) = true := by simp; omega
        have hlen : i < P.waits.length := by rw [HN0.out]; exact hlt
        obtain ⟨g, off, hsp, hgl, ds, hit, hcl⟩ := HIT0.out i hlt
        subst hsp
        have hst := @its_next true P.waits i hlen
        generalize P.waits.getD i ([], []) = x at *
        obtain ⟨a0, a1, a2, a3, a4, v, pp, pc, p', cap, rfl, hv, rfl⟩ := hit.open51
        have hur := HUr.out _ hwr
        have x0 := (hur.cell (p := ⟨g, off + i * 11 + 0, none⟩) hgl).trans (hcl 0 (by omega))
        have x1 := (hur.cell (p := ⟨g, off + i * 11 + 1, none⟩) hgl).trans (hcl 1 (by omega))
        have x2 := (hur.cell (p := ⟨g, off + i * 11 + 2, none⟩) hgl).trans (hcl 2 (by omega))
        have x3 := (hur.cell (p := ⟨g, off + i * 11 + 3, none⟩) hgl).trans (hcl 3 (by omega))
        have x4 := (hur.cell (p := ⟨g, off + i * 11 + 4, none⟩) hgl).trans (hcl 4 (by omega))
        have x5 := (hur.cell (p := ⟨g, off + i * 11 + 5, none⟩) hgl).trans (hcl 5 (by omega))
        have x6 := (hur.cell (p := ⟨g, off + i * 11 + 6, none⟩) hgl).trans (hcl 6 (by omega))
        have x7 := (hur.cell (p := ⟨g, off + i * 11 + 7, none⟩) hgl).trans (hcl 7 (by omega))
        have x8 := (hur.cell (p := ⟨g, off + i * 11 + 8, none⟩) hgl).trans (hcl 8 (by omega))
        have x9 := (hur.cell (p := ⟨g, off + i * 11 + 9, none⟩) hgl).trans (hcl 9 (by omega))
        have x10 := (hur.cell (p := ⟨g, off + i * 11 + 10, none⟩) hgl).trans (hcl 10 (by omega))
        simp at x0 x1 x2 x3 x4 x5 x6 x7 x8 x9 x10
        have b1 : (0 : Int) ≤ (i : Int) := by omega
        have b2 : (i : Int) < (N0 : Int) := by omega
        have hie : itE true ([a0, a1, a2, a3, a4], [v]) = catO (numsE [a0, a1, a2, a3, a4]) (someE v) := rfl
        rw [hie] at hst
        have HST := Lib.hid hst
        have hA : (wr.alloc (.cells #[.int .i64 a0, .int .i64 a1, .int .i64 a2, .int .i64 a3, .int .i64 a4, .int .i64 v.kind, .int .i64 v.num, .float .f64 v.flt, .string ⟨v.str.toArray⟩, .slice pp v.names.length pc, .slice p' v.items.length cap] 59)).heap[wr.heap.size]? = some (.cells #[.int .i64 a0, .int .i64 a1, .int .i64 a2, .int .i64 a3, .int .i64 a4, .int .i64 v.kind, .int .i64 v.num, .float .f64 v.flt, .string ⟨v.str.toArray⟩, .slice pp v.names.length pc, .slice p' v.items.length cap] 59 (0, 0)) := heap_alloc_new wr _
        have e1 : (wr.alloc (.cells #[.int .i64 a0, .int .i64 a1, .int .i64 a2, .int .i64 a3, .int .i64 a4, .int .i64 v.kind, .int .i64 v.num, .float .f64 v.flt, .string ⟨v.str.toArray⟩, .slice pp v.names.length pc, .slice p' v.items.length cap] 59)).heap.size = wr.heap.size + 1 := by simp
        have hbB := (hbd.below ((Below.refl _ _).alloc (Nat.le_refl _) (.cells #[.int .i64 a0, .int .i64 a1, .int .i64 a2, .int .i64 a3, .int .i64 a4, .int .i64 v.kind, .int .i64 v.num, .float .f64 v.flt, .string ⟨v.str.toArray⟩, .slice pp v.names.length pc, .slice p' v.items.length cap] 59))).below ((Below.refl _ _).alloc (Nat.le_refl _) (.cells #[.int .i64 a0, .int .i64 a1, .int .i64 a2, .int .i64 a3, .int .i64 a4] 3))
        have hwB := (hwr.alloc (.cells #[.int .i64 a0, .int .i64 a1, .int .i64 a2, .int .i64 a3, .int .i64 a4, .int .i64 v.kind, .int .i64 v.num, .float .f64 v.flt, .string ⟨v.str.toArray⟩, .slice pp v.names.length pc, .slice p' v.items.length cap] 59)).alloc (.cells #[.int .i64 a0, .int .i64 a1, .int .i64 a2, .int .i64 a3, .int .i64 a4] 3)
        have hgB := heap_alloc_new (wr.alloc (.cells #[.int .i64 a0, .int .i64 a1, .int .i64 a2, .int .i64 a3, .int .i64 a4, .int .i64 v.kind, .int .i64 v.num, .float .f64 v.flt, .string ⟨v.str.toArray⟩, .slice pp v.names.length pc, .slice p' v.items.length cap] 59)) (.cells #[.int .i64 a0, .int .i64 a1, .int .i64 a2, .int .i64 a3, .int .i64 a4] 3)
        rw [e1] at hgB
        have hi5 : i < 500 := by omega
        have HNU := Lib.hid (onum_any [a0, a1, a2, a3, a4] 5 #[.int .i64 a0, .int .i64 a1, .int .i64 a2, .int .i64 a3, .int .i64 a4] rfl rfl (by omega) (wr.heap.size + 1) b (34 + 200000 * i) q (by omega) _ hbB hgB)
        have hAB := (Lib.alloc_old _ (.cells #[.int .i64 a0, .int .i64 a1, .int .i64 a2, .int .i64 a3, .int .i64 a4] 3) wr.heap.size (by rw [e1]; omega)).trans hA
        have hnb : wr.heap.size ∉ [b] := by have := hbd.lt; simp; omega
        clear hgB hcl hit hA hst hie e1 hlen
        generalize hwz : wr.heap.size = Z at *
        have HZ := Lib.hid hwz; clear hwz
        go_wp2_with fail
        rw [HZ.out]
        refine (HNU.out).mono ?_; rintro e w2 ⟨rfl, hO2, hF2⟩
        have hblk := hF2.at hAB hnb
        have hw2 := hwB.trans hF2
        have HBlk := Lib.hid hblk
        clear hwB hF2 hAB hbB hblk hwr hbd dr x0 x1 x2 x3 x4 x5 x6 x7 x8 x9 x10 hur
        have y0 : w2.cell? ⟨Z, 5, none⟩ = some (.int .i64 v.kind) := by rw [Lib.cell_of_heap HBlk.out]; rfl
        have y1 : w2.cell? ⟨Z, 6, none⟩ = some (.int .i64 v.num) := by rw [Lib.cell_of_heap HBlk.out]; rfl
        have y2 : w2.cell? ⟨Z, 7, none⟩ = some (.float .f64 v.flt) := by rw [Lib.cell_of_heap HBlk.out]; rfl
        have y3 : w2.cell? ⟨Z, 8, none⟩ = some (.string ⟨v.str.toArray⟩) := by rw [Lib.cell_of_heap HBlk.out]; rfl
        have y4 : w2.cell? ⟨Z, 9, none⟩ = some (.slice pp v.names.length pc) := by rw [Lib.cell_of_heap HBlk.out]; rfl
        have y5 : w2.cell? ⟨Z, 10, none⟩ = some (.slice p' v.items.length cap) := by rw [Lib.cell_of_heap HBlk.out]; rfl
        have HV := Lib.hid (osome_any d v #[.int .i64 v.kind, .int .i64 v.num, .float .f64 v.flt, .string ⟨v.str.toArray⟩, .slice pp v.names.length pc, .slice p' v.items.length cap] b (34 + 200000 * i + 10 * 5) _ (by omega) w w2 HWc.out (HUw.out _ hw2) hO2 hv)
        clear hO2
        go_wp2_with fail
        refine (HV.out).mono ?_; rintro e w4 ⟨rfl, hO4, hF4⟩
        have hw4 := hw2.trans hF4
        go_wp2_with fail
        go_roundw
        case rel => exact ⟨i + 1, _, by go_num, by omega, by show _ = _; rw [hI.out, HST.out]; simp only [catO_assoc], hO4.more (by omega), hw4⟩
        case measure => simp [intOf]; omega
      · have t0 : decide ((i : Int) < (N0 : Int)) = false := by simp; omega
        have HP1 : Hid (PE = catO q (catO (listE false P.spots) (catO (listE false P.puts) (catO (listE false P.letters) (catO (listE false P.audits) (some [])))))) := by show _ = _; rw [hI.out, List.drop_eq_nil_of_le (by rw [HN0.out]; omega)]; rw [show itsE true [] = some [] from rfl, catO_id]
        have hO1 := hbd.more (m := 100000034) (by omega)
        have hF1 := hwr
        clear hI hbd hwr
        generalize q = o1 at *
        generalize wr = w1 at *
        have hp1 := hF1.at HPart.out hne
        have d1 : w1.cell? ⟨H, 3, none⟩ = some (.slice s1 N1 c1') := by rw [Lib.cell_of_heap hp1]; rfl
        have HM1 := Lib.hid (omany_any (N1 : Int) b 100000034 o1 (by omega) w1 hO1)
        go_wp2_with fail
        refine (HM1.out).mono ?_; rintro e wm ⟨rfl, hOm, hFm⟩
        have hFm' := hF1.trans hFm
        have hpm := hFm'.at HPart.out hne
        have dm : wm.cell? ⟨H, 3, none⟩ = some (.slice s1 N1 c1') := by rw [Lib.cell_of_heap hpm]; rfl
        have hI0 : Hid (PE = catO (catO o1 (manyE (N1 : Int))) (catO (itsE false (P.spots.drop 0)) (catO (listE false P.puts) (catO (listE false P.letters) (catO (listE false P.audits) (some [])))))) := by show _ = _; rw [HP1.out, listE, HN1.out, List.drop_zero, catO_assoc, catO_assoc]
        generalize catO o1 (manyE (N1 : Int)) = q1 at *
        clear hp1 d1 hO1 hF1 hFm HM1 HP1
        go_wp2_with fail
        clear dm
        go_loopw [7] (fun iv wr => ∃ (i : Nat) (q : Option (List UInt8)), iv = .int .i64 (i : Int) ∧ i ≤ N1 ∧ Hid (PE = catO q (catO (itsE false (P.spots.drop i)) (catO (listE false P.puts) (catO (listE false P.letters) (catO (listE false P.audits) (some [])))))) ∧ OutAt b (100000044 + 200000 * i) q wr ∧ Fr [b] W1 wr) (fun iv _ => N1 - (intOf iv).toNat)
        case atStart => exact ⟨0, _, rfl, by omega, hI0, hOm, hFm'⟩
        case round =>
          clear hOm hFm' hpm hI0
          obtain ⟨i, q, rfl, hi, hI, hbd, hwr⟩ := hrel
          have hpr := hwr.at HPart.out hne
          have dr : wr.cell? ⟨H, 3, none⟩ = some (.slice s1 N1 c1') := by rw [Lib.cell_of_heap hpr]; rfl
          clear hpr
          by_cases hlt : i < N1
          · have t0 : decide ((i : Int) < (N1 : Int)) = true := by simp; omega
            have hlen : i < P.spots.length := by rw [HN1.out]; exact hlt
            obtain ⟨g, off, hsp, hgl, ds, hit, hcl⟩ := HIT1.out i hlt
            subst hsp
            have hst := @its_next false P.spots i hlen
            generalize P.spots.getD i ([], []) = x at *
            obtain ⟨a0, a1, a2, a3, rfl, rfl⟩ := hit.open40
            have hur := HUr.out _ hwr
            have x0 := (hur.cell (p := ⟨g, off + i * 4 + 0, none⟩) hgl).trans (hcl 0 (by omega))
            have x1 := (hur.cell (p := ⟨g, off + i * 4 + 1, none⟩) hgl).trans (hcl 1 (by omega))
            have x2 := (hur.cell (p := ⟨g, off + i * 4 + 2, none⟩) hgl).trans (hcl 2 (by omega))
            have x3 := (hur.cell (p := ⟨g, off + i * 4 + 3, none⟩) hgl).trans (hcl 3 (by omega))
            simp at x0 x1 x2 x3
            have b1 : (0 : Int) ≤ (i : Int) := by omega
            have b2 : (i : Int) < (N1 : Int) := by omega
            have hie : itE false ([a0, a1, a2, a3], []) = catO (numsE [a0, a1, a2, a3]) (some []) := rfl
            rw [hie] at hst
            have HST := Lib.hid hst
            have hA : (wr.alloc (.cells #[.int .i64 a0, .int .i64 a1, .int .i64 a2, .int .i64 a3] 52)).heap[wr.heap.size]? = some (.cells #[.int .i64 a0, .int .i64 a1, .int .i64 a2, .int .i64 a3] 52 (0, 0)) := heap_alloc_new wr _
            have e1 : (wr.alloc (.cells #[.int .i64 a0, .int .i64 a1, .int .i64 a2, .int .i64 a3] 52)).heap.size = wr.heap.size + 1 := by simp
            have hbB := (hbd.below ((Below.refl _ _).alloc (Nat.le_refl _) (.cells #[.int .i64 a0, .int .i64 a1, .int .i64 a2, .int .i64 a3] 52))).below ((Below.refl _ _).alloc (Nat.le_refl _) (.cells #[.int .i64 a0, .int .i64 a1, .int .i64 a2, .int .i64 a3] 3))
            have hwB := (hwr.alloc (.cells #[.int .i64 a0, .int .i64 a1, .int .i64 a2, .int .i64 a3] 52)).alloc (.cells #[.int .i64 a0, .int .i64 a1, .int .i64 a2, .int .i64 a3] 3)
            have hgB := heap_alloc_new (wr.alloc (.cells #[.int .i64 a0, .int .i64 a1, .int .i64 a2, .int .i64 a3] 52)) (.cells #[.int .i64 a0, .int .i64 a1, .int .i64 a2, .int .i64 a3] 3)
            rw [e1] at hgB
            have hi5 : i < 500 := by omega
            have HNU := Lib.hid (onum_any [a0, a1, a2, a3] 4 #[.int .i64 a0, .int .i64 a1, .int .i64 a2, .int .i64 a3] rfl rfl (by omega) (wr.heap.size + 1) b (100000044 + 200000 * i) q (by omega) _ hbB hgB)
            have hAB := (Lib.alloc_old _ (.cells #[.int .i64 a0, .int .i64 a1, .int .i64 a2, .int .i64 a3] 3) wr.heap.size (by rw [e1]; omega)).trans hA
            have hnb : wr.heap.size ∉ [b] := by have := hbd.lt; simp; omega
            clear hgB hcl hit hA hst hie e1 hlen
            generalize hwz : wr.heap.size = Z at *
            have HZ := Lib.hid hwz; clear hwz
            go_wp2_with fail
            rw [HZ.out]
            refine (HNU.out).mono ?_; rintro e w2 ⟨rfl, hO2, hF2⟩
            have hblk := hF2.at hAB hnb
            have hw2 := hwB.trans hF2
            have HBlk := Lib.hid hblk
            clear hwB hF2 hAB hbB hblk hwr hbd dr x0 x1 x2 x3 hur
            go_wp2_with fail
            go_roundw
            case rel => exact ⟨i + 1, _, by go_num, by omega, by show _ = _; rw [hI.out, HST.out]; simp only [catO_assoc, catO_id], hO2.more (by omega), hw2⟩
            case measure => simp [intOf]; omega
          · have t0 : decide ((i : Int) < (N1 : Int)) = false := by simp; omega
            have HP2 : Hid (PE = catO q (catO (listE false P.puts) (catO (listE false P.letters) (catO (listE false P.audits) (some []))))) := by show _ = _; rw [hI.out, List.drop_eq_nil_of_le (by rw [HN1.out]; omega)]; rw [show itsE false [] = some [] from rfl, catO_id]
            have hO2 := hbd.more (m := 200000044) (by omega)
            have hF2 := hwr
            clear hI hbd hwr
            generalize q = o2 at *
            generalize wr = w2 at *
            have hp2 := hF2.at HPart.out hne
            have d2 : w2.cell? ⟨H, 4, none⟩ = some (.slice s2 N2 c2') := by rw [Lib.cell_of_heap hp2]; rfl
            have HM2 := Lib.hid (omany_any (N2 : Int) b 200000044 o2 (by omega) w2 hO2)
            go_wp2_with fail
            refine (HM2.out).mono ?_; rintro e wm ⟨rfl, hOm, hFm⟩
            have hFm' := hF2.trans hFm
            have hpm := hFm'.at HPart.out hne
            have dm : wm.cell? ⟨H, 4, none⟩ = some (.slice s2 N2 c2') := by rw [Lib.cell_of_heap hpm]; rfl
            have hI0 : Hid (PE = catO (catO o2 (manyE (N2 : Int))) (catO (itsE false (P.puts.drop 0)) (catO (listE false P.letters) (catO (listE false P.audits) (some []))))) := by show _ = _; rw [HP2.out, listE, HN2.out, List.drop_zero, catO_assoc, catO_assoc]
            generalize catO o2 (manyE (N2 : Int)) = q2 at *
            clear hp2 d2 hO2 hF2 hFm HM2 HP2
            go_wp2_with fail
            clear dm
            go_loopw [9] (fun iv wr => ∃ (i : Nat) (q : Option (List UInt8)), iv = .int .i64 (i : Int) ∧ i ≤ N2 ∧ Hid (PE = catO q (catO (itsE false (P.puts.drop i)) (catO (listE false P.letters) (catO (listE false P.audits) (some []))))) ∧ OutAt b (200000054 + 200000 * i) q wr ∧ Fr [b] W1 wr) (fun iv _ => N2 - (intOf iv).toNat)
            case atStart => exact ⟨0, _, rfl, by omega, hI0, hOm, hFm'⟩
            case round =>
              clear hOm hFm' hpm hI0
              obtain ⟨i, q, rfl, hi, hI, hbd, hwr⟩ := hrel
              have hpr := hwr.at HPart.out hne
              have dr : wr.cell? ⟨H, 4, none⟩ = some (.slice s2 N2 c2') := by rw [Lib.cell_of_heap hpr]; rfl
              clear hpr
              by_cases hlt : i < N2
              · have t0 : decide ((i : Int) < (N2 : Int)) = true := by simp; omega
                have hlen : i < P.puts.length := by rw [HN2.out]; exact hlt
                obtain ⟨g, off, hsp, hgl, ds, hit, hcl⟩ := HIT2.out i hlt
                subst hsp
                have hst := @its_next false P.puts i hlen
                generalize P.puts.getD i ([], []) = x at *
                obtain ⟨a0, a1, a2, v, pp, pc, p', cap, rfl, hv, rfl⟩ := hit.open31
                have hur := HUr.out _ hwr
                have x0 := (hur.cell (p := ⟨g, off + i * 9 + 0, none⟩) hgl).trans (hcl 0 (by omega))
                have x1 := (hur.cell (p := ⟨g, off + i * 9 + 1, none⟩) hgl).trans (hcl 1 (by omega))
                have x2 := (hur.cell (p := ⟨g, off + i * 9 + 2, none⟩) hgl).trans (hcl 2 (by omega))
                have x3 := (hur.cell (p := ⟨g, off + i * 9 + 3, none⟩) hgl).trans (hcl 3 (by omega))
                have x4 := (hur.cell (p := ⟨g, off + i * 9 + 4, none⟩) hgl).trans (hcl 4 (by omega))
                have x5 := (hur.cell (p := ⟨g, off + i * 9 + 5, none⟩) hgl).trans (hcl 5 (by omega))
                have x6 := (hur.cell (p := ⟨g, off + i * 9 + 6, none⟩) hgl).trans (hcl 6 (by omega))
                have x7 := (hur.cell (p := ⟨g, off + i * 9 + 7, none⟩) hgl).trans (hcl 7 (by omega))
                have x8 := (hur.cell (p := ⟨g, off + i * 9 + 8, none⟩) hgl).trans (hcl 8 (by omega))
                simp at x0 x1 x2 x3 x4 x5 x6 x7 x8
                have b1 : (0 : Int) ≤ (i : Int) := by omega
                have b2 : (i : Int) < (N2 : Int) := by omega
                have hie : itE false ([a0, a1, a2], [v]) = catO (numsE [a0, a1, a2]) (valsE [v]) := rfl
                rw [hie] at hst
                have HST := Lib.hid hst
                have hA : (wr.alloc (.cells #[.int .i64 a0, .int .i64 a1, .int .i64 a2, .int .i64 v.kind, .int .i64 v.num, .float .f64 v.flt, .string ⟨v.str.toArray⟩, .slice pp v.names.length pc, .slice p' v.items.length cap] 61)).heap[wr.heap.size]? = some (.cells #[.int .i64 a0, .int .i64 a1, .int .i64 a2, .int .i64 v.kind, .int .i64 v.num, .float .f64 v.flt, .string ⟨v.str.toArray⟩, .slice pp v.names.length pc, .slice p' v.items.length cap] 61 (0, 0)) := heap_alloc_new wr _
                have e1 : (wr.alloc (.cells #[.int .i64 a0, .int .i64 a1, .int .i64 a2, .int .i64 v.kind, .int .i64 v.num, .float .f64 v.flt, .string ⟨v.str.toArray⟩, .slice pp v.names.length pc, .slice p' v.items.length cap] 61)).heap.size = wr.heap.size + 1 := by simp
                have hbB := (hbd.below ((Below.refl _ _).alloc (Nat.le_refl _) (.cells #[.int .i64 a0, .int .i64 a1, .int .i64 a2, .int .i64 v.kind, .int .i64 v.num, .float .f64 v.flt, .string ⟨v.str.toArray⟩, .slice pp v.names.length pc, .slice p' v.items.length cap] 61))).below ((Below.refl _ _).alloc (Nat.le_refl _) (.cells #[.int .i64 a0, .int .i64 a1, .int .i64 a2] 3))
                have hwB := (hwr.alloc (.cells #[.int .i64 a0, .int .i64 a1, .int .i64 a2, .int .i64 v.kind, .int .i64 v.num, .float .f64 v.flt, .string ⟨v.str.toArray⟩, .slice pp v.names.length pc, .slice p' v.items.length cap] 61)).alloc (.cells #[.int .i64 a0, .int .i64 a1, .int .i64 a2] 3)
                have hgB := heap_alloc_new (wr.alloc (.cells #[.int .i64 a0, .int .i64 a1, .int .i64 a2, .int .i64 v.kind, .int .i64 v.num, .float .f64 v.flt, .string ⟨v.str.toArray⟩, .slice pp v.names.length pc, .slice p' v.items.length cap] 61)) (.cells #[.int .i64 a0, .int .i64 a1, .int .i64 a2] 3)
                rw [e1] at hgB
                have hi5 : i < 500 := by omega
                have HNU := Lib.hid (onum_any [a0, a1, a2] 3 #[.int .i64 a0, .int .i64 a1, .int .i64 a2] rfl rfl (by omega) (wr.heap.size + 1) b (200000054 + 200000 * i) q (by omega) _ hbB hgB)
                have hAB := (Lib.alloc_old _ (.cells #[.int .i64 a0, .int .i64 a1, .int .i64 a2] 3) wr.heap.size (by rw [e1]; omega)).trans hA
                have hnb : wr.heap.size ∉ [b] := by have := hbd.lt; simp; omega
                clear hgB hcl hit hA hst hie e1 hlen
                generalize hwz : wr.heap.size = Z at *
                have HZ := Lib.hid hwz; clear hwz
                go_wp2_with fail
                rw [HZ.out]
                refine (HNU.out).mono ?_; rintro e w2 ⟨rfl, hO2, hF2⟩
                have hblk := hF2.at hAB hnb
                have hw2 := hwB.trans hF2
                have HBlk := Lib.hid hblk
                clear hwB hF2 hAB hbB hblk hwr hbd dr x0 x1 x2 x3 x4 x5 x6 x7 x8 hur
                have y0 : w2.cell? ⟨Z, 3, none⟩ = some (.int .i64 v.kind) := by rw [Lib.cell_of_heap HBlk.out]; rfl
                have y1 : w2.cell? ⟨Z, 4, none⟩ = some (.int .i64 v.num) := by rw [Lib.cell_of_heap HBlk.out]; rfl
                have y2 : w2.cell? ⟨Z, 5, none⟩ = some (.float .f64 v.flt) := by rw [Lib.cell_of_heap HBlk.out]; rfl
                have y3 : w2.cell? ⟨Z, 6, none⟩ = some (.string ⟨v.str.toArray⟩) := by rw [Lib.cell_of_heap HBlk.out]; rfl
                have y4 : w2.cell? ⟨Z, 7, none⟩ = some (.slice pp v.names.length pc) := by rw [Lib.cell_of_heap HBlk.out]; rfl
                have y5 : w2.cell? ⟨Z, 8, none⟩ = some (.slice p' v.items.length cap) := by rw [Lib.cell_of_heap HBlk.out]; rfl
                have HV := Lib.hid (oval_any (d + 1) v #[.int .i64 v.kind, .int .i64 v.num, .float .f64 v.flt, .string ⟨v.str.toArray⟩, .slice pp v.names.length pc, .slice p' v.items.length cap] b (200000054 + 200000 * i + 10 * 3) _ (by omega) w2 hO2 (hv.kept (HUw.out _ hw2)))
                clear hO2
                go_wp2_with fail
                refine (HV.out).mono ?_; rintro e w4 ⟨rfl, hO4, hF4⟩
                have hw4 := hw2.trans hF4
                go_wp2_with fail
                go_roundw
                case rel => exact ⟨i + 1, _, by go_num, by omega, by show _ = _; rw [hI.out, HST.out]; simp only [catO_assoc], hO4.more (by omega), hw4⟩
                case measure => simp [intOf]; omega
              · have t0 : decide ((i : Int) < (N2 : Int)) = false := by simp; omega
                have HP3 : Hid (PE = catO q (catO (listE false P.letters) (catO (listE false P.audits) (some [])))) := by show _ = _; rw [hI.out, List.drop_eq_nil_of_le (by rw [HN2.out]; omega)]; rw [show itsE false [] = some [] from rfl, catO_id]
                have hO3 := hbd.more (m := 300000054) (by omega)
                have hF3 := hwr
                clear hI hbd hwr
                generalize q = o3 at *
                generalize wr = w3 at *
                have hp3 := hF3.at HPart.out hne
                have d3 : w3.cell? ⟨H, 5, none⟩ = some (.slice s3 N3 c3') := by rw [Lib.cell_of_heap hp3]; rfl
                have HM3 := Lib.hid (omany_any (N3 : Int) b 300000054 o3 (by omega) w3 hO3)
                go_wp2_with fail
                refine (HM3.out).mono ?_; rintro e wm ⟨rfl, hOm, hFm⟩
                have hFm' := hF3.trans hFm
                have hpm := hFm'.at HPart.out hne
                have dm : wm.cell? ⟨H, 5, none⟩ = some (.slice s3 N3 c3') := by rw [Lib.cell_of_heap hpm]; rfl
                have hI0 : Hid (PE = catO (catO o3 (manyE (N3 : Int))) (catO (itsE false (P.letters.drop 0)) (catO (listE false P.audits) (some [])))) := by show _ = _; rw [HP3.out, listE, HN3.out, List.drop_zero, catO_assoc, catO_assoc]
                generalize catO o3 (manyE (N3 : Int)) = q3 at *
                clear hp3 d3 hO3 hF3 hFm HM3 HP3
                go_wp2_with fail
                clear dm
                go_loopw [11] (fun iv wr => ∃ (i : Nat) (q : Option (List UInt8)), iv = .int .i64 (i : Int) ∧ i ≤ N3 ∧ Hid (PE = catO q (catO (itsE false (P.letters.drop i)) (catO (listE false P.audits) (some [])))) ∧ OutAt b (300000064 + 200000 * i) q wr ∧ Fr [b] W1 wr) (fun iv _ => N3 - (intOf iv).toNat)
                case atStart => exact ⟨0, _, rfl, by omega, hI0, hOm, hFm'⟩
                case round =>
                  clear hOm hFm' hpm hI0
                  obtain ⟨i, q, rfl, hi, hI, hbd, hwr⟩ := hrel
                  have hpr := hwr.at HPart.out hne
                  have dr : wr.cell? ⟨H, 5, none⟩ = some (.slice s3 N3 c3') := by rw [Lib.cell_of_heap hpr]; rfl
                  clear hpr
                  by_cases hlt : i < N3
                  · have t0 : decide ((i : Int) < (N3 : Int)) = true := by simp; omega
                    have hlen : i < P.letters.length := by rw [HN3.out]; exact hlt
                    obtain ⟨g, off, hsp, hgl, ds, hit, hcl⟩ := HIT3.out i hlt
                    subst hsp
                    have hst := @its_next false P.letters i hlen
                    generalize P.letters.getD i ([], []) = x at *
                    obtain ⟨a0, v, pp, pc, p', cap, v2, pp2, pc2, p2, cap2, rfl, hv, hv2, rfl⟩ := hit.open12
                    have hur := HUr.out _ hwr
                    have x0 := (hur.cell (p := ⟨g, off + i * 13 + 0, none⟩) hgl).trans (hcl 0 (by omega))
                    have x1 := (hur.cell (p := ⟨g, off + i * 13 + 1, none⟩) hgl).trans (hcl 1 (by omega))
                    have x2 := (hur.cell (p := ⟨g, off + i * 13 + 2, none⟩) hgl).trans (hcl 2 (by omega))
                    have x3 := (hur.cell (p := ⟨g, off + i * 13 + 3, none⟩) hgl).trans (hcl 3 (by omega))
                    have x4 := (hur.cell (p := ⟨g, off + i * 13 + 4, none⟩) hgl).trans (hcl 4 (by omega))
                    have x5 := (hur.cell (p := ⟨g, off + i * 13 + 5, none⟩) hgl).trans (hcl 5 (by omega))
                    have x6 := (hur.cell (p := ⟨g, off + i * 13 + 6, none⟩) hgl).trans (hcl 6 (by omega))
                    have x7 := (hur.cell (p := ⟨g, off + i * 13 + 7, none⟩) hgl).trans (hcl 7 (by omega))
                    have x8 := (hur.cell (p := ⟨g, off + i * 13 + 8, none⟩) hgl).trans (hcl 8 (by omega))
                    have x9 := (hur.cell (p := ⟨g, off + i * 13 + 9, none⟩) hgl).trans (hcl 9 (by omega))
                    have x10 := (hur.cell (p := ⟨g, off + i * 13 + 10, none⟩) hgl).trans (hcl 10 (by omega))
                    have x11 := (hur.cell (p := ⟨g, off + i * 13 + 11, none⟩) hgl).trans (hcl 11 (by omega))
                    have x12 := (hur.cell (p := ⟨g, off + i * 13 + 12, none⟩) hgl).trans (hcl 12 (by omega))
                    simp at x0 x1 x2 x3 x4 x5 x6 x7 x8 x9 x10 x11 x12
                    have b1 : (0 : Int) ≤ (i : Int) := by omega
                    have b2 : (i : Int) < (N3 : Int) := by omega
                    have hie : itE false ([a0], [v, v2]) = catO (numsE [a0]) (valsE [v, v2]) := rfl
                    rw [hie, vals_two] at hst
                    have HST := Lib.hid hst
                    have hA : (wr.alloc (.cells #[.int .i64 a0, .int .i64 v.kind, .int .i64 v.num, .float .f64 v.flt, .string ⟨v.str.toArray⟩, .slice pp v.names.length pc, .slice p' v.items.length cap, .int .i64 v2.kind, .int .i64 v2.num, .float .f64 v2.flt, .string ⟨v2.str.toArray⟩, .slice pp2 v2.names.length pc2, .slice p2 v2.items.length cap2] 63)).heap[wr.heap.size]? = some (.cells #[.int .i64 a0, .int .i64 v.kind, .int .i64 v.num, .float .f64 v.flt, .string ⟨v.str.toArray⟩, .slice pp v.names.length pc, .slice p' v.items.length cap, .int .i64 v2.kind, .int .i64 v2.num, .float .f64 v2.flt, .string ⟨v2.str.toArray⟩, .slice pp2 v2.names.length pc2, .slice p2 v2.items.length cap2] 63 (0, 0)) := heap_alloc_new wr _
                    have e1 : (wr.alloc (.cells #[.int .i64 a0, .int .i64 v.kind, .int .i64 v.num, .float .f64 v.flt, .string ⟨v.str.toArray⟩, .slice pp v.names.length pc, .slice p' v.items.length cap, .int .i64 v2.kind, .int .i64 v2.num, .float .f64 v2.flt, .string ⟨v2.str.toArray⟩, .slice pp2 v2.names.length pc2, .slice p2 v2.items.length cap2] 63)).heap.size = wr.heap.size + 1 := by simp
                    have hbB := (hbd.below ((Below.refl _ _).alloc (Nat.le_refl _) (.cells #[.int .i64 a0, .int .i64 v.kind, .int .i64 v.num, .float .f64 v.flt, .string ⟨v.str.toArray⟩, .slice pp v.names.length pc, .slice p' v.items.length cap, .int .i64 v2.kind, .int .i64 v2.num, .float .f64 v2.flt, .string ⟨v2.str.toArray⟩, .slice pp2 v2.names.length pc2, .slice p2 v2.items.length cap2] 63))).below ((Below.refl _ _).alloc (Nat.le_refl _) (.cells #[.int .i64 a0] 3))
                    have hwB := (hwr.alloc (.cells #[.int .i64 a0, .int .i64 v.kind, .int .i64 v.num, .float .f64 v.flt, .string ⟨v.str.toArray⟩, .slice pp v.names.length pc, .slice p' v.items.length cap, .int .i64 v2.kind, .int .i64 v2.num, .float .f64 v2.flt, .string ⟨v2.str.toArray⟩, .slice pp2 v2.names.length pc2, .slice p2 v2.items.length cap2] 63)).alloc (.cells #[.int .i64 a0] 3)
                    have hgB := heap_alloc_new (wr.alloc (.cells #[.int .i64 a0, .int .i64 v.kind, .int .i64 v.num, .float .f64 v.flt, .string ⟨v.str.toArray⟩, .slice pp v.names.length pc, .slice p' v.items.length cap, .int .i64 v2.kind, .int .i64 v2.num, .float .f64 v2.flt, .string ⟨v2.str.toArray⟩, .slice pp2 v2.names.length pc2, .slice p2 v2.items.length cap2] 63)) (.cells #[.int .i64 a0] 3)
                    rw [e1] at hgB
                    have hi5 : i < 500 := by omega
                    have HNU := Lib.hid (onum_any [a0] 1 #[.int .i64 a0] rfl rfl (by omega) (wr.heap.size + 1) b (300000064 + 200000 * i) q (by omega) _ hbB hgB)
                    have hAB := (Lib.alloc_old _ (.cells #[.int .i64 a0] 3) wr.heap.size (by rw [e1]; omega)).trans hA
                    have hnb : wr.heap.size ∉ [b] := by have := hbd.lt; simp; omega
                    clear hgB hcl hit hA hst hie e1 hlen
                    generalize hwz : wr.heap.size = Z at *
                    have HZ := Lib.hid hwz; clear hwz
                    go_wp2_with fail
                    rw [HZ.out]
                    refine (HNU.out).mono ?_; rintro e w2 ⟨rfl, hO2, hF2⟩
                    have hblk := hF2.at hAB hnb
                    have hw2 := hwB.trans hF2
                    have HBlk := Lib.hid hblk
                    clear hwB hF2 hAB hbB hblk hwr hbd dr x0 x1 x2 x3 x4 x5 x6 x7 x8 x9 x10 x11 x12 hur
                    have y0 : w2.cell? ⟨Z, 1, none⟩ = some (.int .i64 v.kind) := by rw [Lib.cell_of_heap HBlk.out]; rfl
                    have y1 : w2.cell? ⟨Z, 2, none⟩ = some (.int .i64 v.num) := by rw [Lib.cell_of_heap HBlk.out]; rfl
                    have y2 : w2.cell? ⟨Z, 3, none⟩ = some (.float .f64 v.flt) := by rw [Lib.cell_of_heap HBlk.out]; rfl
                    have y3 : w2.cell? ⟨Z, 4, none⟩ = some (.string ⟨v.str.toArray⟩) := by rw [Lib.cell_of_heap HBlk.out]; rfl
                    have y4 : w2.cell? ⟨Z, 5, none⟩ = some (.slice pp v.names.length pc) := by rw [Lib.cell_of_heap HBlk.out]; rfl
                    have y5 : w2.cell? ⟨Z, 6, none⟩ = some (.slice p' v.items.length cap) := by rw [Lib.cell_of_heap HBlk.out]; rfl
                    have y6 : w2.cell? ⟨Z, 7, none⟩ = some (.int .i64 v2.kind) := by rw [Lib.cell_of_heap HBlk.out]; rfl
                    have y7 : w2.cell? ⟨Z, 8, none⟩ = some (.int .i64 v2.num) := by rw [Lib.cell_of_heap HBlk.out]; rfl
                    have y8 : w2.cell? ⟨Z, 9, none⟩ = some (.float .f64 v2.flt) := by rw [Lib.cell_of_heap HBlk.out]; rfl
                    have y9 : w2.cell? ⟨Z, 10, none⟩ = some (.string ⟨v2.str.toArray⟩) := by rw [Lib.cell_of_heap HBlk.out]; rfl
                    have y10 : w2.cell? ⟨Z, 11, none⟩ = some (.slice pp2 v2.names.length pc2) := by rw [Lib.cell_of_heap HBlk.out]; rfl
                    have y11 : w2.cell? ⟨Z, 12, none⟩ = some (.slice p2 v2.items.length cap2) := by rw [Lib.cell_of_heap HBlk.out]; rfl
                    have HV := Lib.hid (oval_any (d + 1) v #[.int .i64 v.kind, .int .i64 v.num, .float .f64 v.flt, .string ⟨v.str.toArray⟩, .slice pp v.names.length pc, .slice p' v.items.length cap] b (300000064 + 200000 * i + 10 * 1) _ (by omega) w2 hO2 (hv.kept (HUw.out _ hw2)))
                    clear hO2
                    go_wp2_with fail
                    refine (HV.out).mono ?_; rintro e w4 ⟨rfl, hO4, hF4⟩
                    have hw4 := hw2.trans hF4
                    have HBlk4 := Lib.hid (hF4.at HBlk.out hnb)
                    clear y0 y1 y2 y3 y4 y5 y6 y7 y8 y9 y10 y11
                    have y0 : w4.cell? ⟨Z, 1, none⟩ = some (.int .i64 v.kind) := by rw [Lib.cell_of_heap HBlk4.out]; rfl
                    have y1 : w4.cell? ⟨Z, 2, none⟩ = some (.int .i64 v.num) := by rw [Lib.cell_of_heap HBlk4.out]; rfl
                    have y2 : w4.cell? ⟨Z, 3, none⟩ = some (.float .f64 v.flt) := by rw [Lib.cell_of_heap HBlk4.out]; rfl
                    have y3 : w4.cell? ⟨Z, 4, none⟩ = some (.string ⟨v.str.toArray⟩) := by rw [Lib.cell_of_heap HBlk4.out]; rfl
                    have y4 : w4.cell? ⟨Z, 5, none⟩ = some (.slice pp v.names.length pc) := by rw [Lib.cell_of_heap HBlk4.out]; rfl
                    have y5 : w4.cell? ⟨Z, 6, none⟩ = some (.slice p' v.items.length cap) := by rw [Lib.cell_of_heap HBlk4.out]; rfl
                    have y6 : w4.cell? ⟨Z, 7, none⟩ = some (.int .i64 v2.kind) := by rw [Lib.cell_of_heap HBlk4.out]; rfl
                    have y7 : w4.cell? ⟨Z, 8, none⟩ = some (.int .i64 v2.num) := by rw [Lib.cell_of_heap HBlk4.out]; rfl
                    have y8 : w4.cell? ⟨Z, 9, none⟩ = some (.float .f64 v2.flt) := by rw [Lib.cell_of_heap HBlk4.out]; rfl
                    have y9 : w4.cell? ⟨Z, 10, none⟩ = some (.string ⟨v2.str.toArray⟩) := by rw [Lib.cell_of_heap HBlk4.out]; rfl
                    have y10 : w4.cell? ⟨Z, 11, none⟩ = some (.slice pp2 v2.names.length pc2) := by rw [Lib.cell_of_heap HBlk4.out]; rfl
                    have y11 : w4.cell? ⟨Z, 12, none⟩ = some (.slice p2 v2.items.length cap2) := by rw [Lib.cell_of_heap HBlk4.out]; rfl
                    have HV2 := Lib.hid (oval_any (d + 1) v2 #[.int .i64 v2.kind, .int .i64 v2.num, .float .f64 v2.flt, .string ⟨v2.str.toArray⟩, .slice pp2 v2.names.length pc2, .slice p2 v2.items.length cap2] b (300000064 + 200000 * i + 10 * 1 + 60000) _ (by omega) w4 hO4 (hv2.kept (HUw.out _ hw4)))
                    clear hO4
                    go_wp2_with fail
                    refine (HV2.out).mono ?_; rintro e w5 ⟨rfl, hO5, hF5⟩
                    have hw5 := hw4.trans hF5
                    go_wp2_with fail
                    go_roundw
                    case rel => exact ⟨i + 1, _, by go_num, by omega, by show _ = _; rw [hI.out, HST.out]; simp only [catO_assoc], hO5.more (by omega), hw5⟩
                    case measure => simp [intOf]; omega
                  · have t0 : decide ((i : Int) < (N3 : Int)) = false := by simp; omega
                    have HP4 : Hid (PE = catO q (catO (listE false P.audits) (some []))) := by show _ = _; rw [hI.out, List.drop_eq_nil_of_le (by rw [HN3.out]; omega)]; rw [show itsE false [] = some [] from rfl, catO_id]
                    have hO4 := hbd.more (m := 400000064) (by omega)
                    have hF4 := hwr
                    clear hI hbd hwr
                    generalize q = o4 at *
                    generalize wr = w4 at *
                    have hp4 := hF4.at HPart.out hne
                    have d4 : w4.cell? ⟨H, 6, none⟩ = some (.slice s4 N4 c4') := by rw [Lib.cell_of_heap hp4]; rfl
                    have HM4 := Lib.hid (omany_any (N4 : Int) b 400000064 o4 (by omega) w4 hO4)
                    go_wp2_with fail
                    refine (HM4.out).mono ?_; rintro e wm ⟨rfl, hOm, hFm⟩
                    have hFm' := hF4.trans hFm
                    have hpm := hFm'.at HPart.out hne
                    have dm : wm.cell? ⟨H, 6, none⟩ = some (.slice s4 N4 c4') := by rw [Lib.cell_of_heap hpm]; rfl
                    have hI0 : Hid (PE = catO (catO o4 (manyE (N4 : Int))) (catO (itsE false (P.audits.drop 0)) (some []))) := by show _ = _; rw [HP4.out, listE, HN4.out, List.drop_zero, catO_assoc, catO_assoc]
                    generalize catO o4 (manyE (N4 : Int)) = q4 at *
                    clear hp4 d4 hO4 hF4 hFm HM4 HP4
                    go_wp2_with fail
                    clear dm
                    go_loopw [13] (fun iv wr => ∃ (i : Nat) (q : Option (List UInt8)), iv = .int .i64 (i : Int) ∧ i ≤ N4 ∧ Hid (PE = catO q (catO (itsE false (P.audits.drop i)) (some []))) ∧ OutAt b (400000074 + 200000 * i) q wr ∧ Fr [b] W1 wr) (fun iv _ => N4 - (intOf iv).toNat)
                    case atStart => exact ⟨0, _, rfl, by omega, hI0, hOm, hFm'⟩
                    case round =>
                      clear hOm hFm' hpm hI0
                      obtain ⟨i, q, rfl, hi, hI, hbd, hwr⟩ := hrel
                      have hpr := hwr.at HPart.out hne
                      have dr : wr.cell? ⟨H, 6, none⟩ = some (.slice s4 N4 c4') := by rw [Lib.cell_of_heap hpr]; rfl
                      clear hpr
                      by_cases hlt : i < N4
                      · have t0 : decide ((i : Int) < (N4 : Int)) = true := by simp; omega
                        have hlen : i < P.audits.length := by rw [HN4.out]; exact hlt
                        obtain ⟨g, off, hsp, hgl, ds, hit, hcl⟩ := HIT4.out i hlt
                        subst hsp
                        have hst := @its_next false P.audits i hlen
                        generalize P.audits.getD i ([], []) = x at *
                        obtain ⟨a0, a1, a2, a3, a4, v, pp, pc, p', cap, rfl, hv, rfl⟩ := hit.open51
                        have hur := HUr.out _ hwr
                        have x0 := (hur.cell (p := ⟨g, off + i * 11 + 0, none⟩) hgl).trans (hcl 0 (by omega))
                        have x1 := (hur.cell (p := ⟨g, off + i * 11 + 1, none⟩) hgl).trans (hcl 1 (by omega))
                        have x2 := (hur.cell (p := ⟨g, off + i * 11 + 2, none⟩) hgl).trans (hcl 2 (by omega))
                        have x3 := (hur.cell (p := ⟨g, off + i * 11 + 3, none⟩) hgl).trans (hcl 3 (by omega))
                        have x4 := (hur.cell (p := ⟨g, off + i * 11 + 4, none⟩) hgl).trans (hcl 4 (by omega))
                        have x5 := (hur.cell (p := ⟨g, off + i * 11 + 5, none⟩) hgl).trans (hcl 5 (by omega))
                        have x6 := (hur.cell (p := ⟨g, off + i * 11 + 6, none⟩) hgl).trans (hcl 6 (by omega))
                        have x7 := (hur.cell (p := ⟨g, off + i * 11 + 7, none⟩) hgl).trans (hcl 7 (by omega))
                        have x8 := (hur.cell (p := ⟨g, off + i * 11 + 8, none⟩) hgl).trans (hcl 8 (by omega))
                        have x9 := (hur.cell (p := ⟨g, off + i * 11 + 9, none⟩) hgl).trans (hcl 9 (by omega))
                        have x10 := (hur.cell (p := ⟨g, off + i * 11 + 10, none⟩) hgl).trans (hcl 10 (by omega))
                        simp at x0 x1 x2 x3 x4 x5 x6 x7 x8 x9 x10
                        have b1 : (0 : Int) ≤ (i : Int) := by omega
                        have b2 : (i : Int) < (N4 : Int) := by omega
                        have hie : itE false ([a0, a1, a2, a3, a4], [v]) = catO (numsE [a0, a1, a2, a3, a4]) (valsE [v]) := rfl
                        rw [hie] at hst
                        have HST := Lib.hid hst
                        have hA : (wr.alloc (.cells #[.int .i64 a0, .int .i64 a1, .int .i64 a2, .int .i64 a3, .int .i64 a4, .int .i64 v.kind, .int .i64 v.num, .float .f64 v.flt, .string ⟨v.str.toArray⟩, .slice pp v.names.length pc, .slice p' v.items.length cap] 65)).heap[wr.heap.size]? = some (.cells #[.int .i64 a0, .int .i64 a1, .int .i64 a2, .int .i64 a3, .int .i64 a4, .int .i64 v.kind, .int .i64 v.num, .float .f64 v.flt, .string ⟨v.str.toArray⟩, .slice pp v.names.length pc, .slice p' v.items.length cap] 65 (0, 0)) := heap_alloc_new wr _
                        have e1 : (wr.alloc (.cells #[.int .i64 a0, .int .i64 a1, .int .i64 a2, .int .i64 a3, .int .i64 a4, .int .i64 v.kind, .int .i64 v.num, .float .f64 v.flt, .string ⟨v.str.toArray⟩, .slice pp v.names.length pc, .slice p' v.items.length cap] 65)).heap.size = wr.heap.size + 1 := by simp
                        have hbB := (hbd.below ((Below.refl _ _).alloc (Nat.le_refl _) (.cells #[.int .i64 a0, .int .i64 a1, .int .i64 a2, .int .i64 a3, .int .i64 a4, .int .i64 v.kind, .int .i64 v.num, .float .f64 v.flt, .string ⟨v.str.toArray⟩, .slice pp v.names.length pc, .slice p' v.items.length cap] 65))).below ((Below.refl _ _).alloc (Nat.le_refl _) (.cells #[.int .i64 a0, .int .i64 a1, .int .i64 a2, .int .i64 a3, .int .i64 a4] 3))
                        have hwB := (hwr.alloc (.cells #[.int .i64 a0, .int .i64 a1, .int .i64 a2, .int .i64 a3, .int .i64 a4, .int .i64 v.kind, .int .i64 v.num, .float .f64 v.flt, .string ⟨v.str.toArray⟩, .slice pp v.names.length pc, .slice p' v.items.length cap] 65)).alloc (.cells #[.int .i64 a0, .int .i64 a1, .int .i64 a2, .int .i64 a3, .int .i64 a4] 3)
                        have hgB := heap_alloc_new (wr.alloc (.cells #[.int .i64 a0, .int .i64 a1, .int .i64 a2, .int .i64 a3, .int .i64 a4, .int .i64 v.kind, .int .i64 v.num, .float .f64 v.flt, .string ⟨v.str.toArray⟩, .slice pp v.names.length pc, .slice p' v.items.length cap] 65)) (.cells #[.int .i64 a0, .int .i64 a1, .int .i64 a2, .int .i64 a3, .int .i64 a4] 3)
                        rw [e1] at hgB
                        have hi5 : i < 500 := by omega
                        have HNU := Lib.hid (onum_any [a0, a1, a2, a3, a4] 5 #[.int .i64 a0, .int .i64 a1, .int .i64 a2, .int .i64 a3, .int .i64 a4] rfl rfl (by omega) (wr.heap.size + 1) b (400000074 + 200000 * i) q (by omega) _ hbB hgB)
                        have hAB := (Lib.alloc_old _ (.cells #[.int .i64 a0, .int .i64 a1, .int .i64 a2, .int .i64 a3, .int .i64 a4] 3) wr.heap.size (by rw [e1]; omega)).trans hA
                        have hnb : wr.heap.size ∉ [b] := by have := hbd.lt; simp; omega
                        clear hgB hcl hit hA hst hie e1 hlen
                        generalize hwz : wr.heap.size = Z at *
                        have HZ := Lib.hid hwz; clear hwz
                        go_wp2_with fail
                        rw [HZ.out]
                        refine (HNU.out).mono ?_; rintro e w2 ⟨rfl, hO2, hF2⟩
                        have hblk := hF2.at hAB hnb
                        have hw2 := hwB.trans hF2
                        have HBlk := Lib.hid hblk
                        clear hwB hF2 hAB hbB hblk hwr hbd dr x0 x1 x2 x3 x4 x5 x6 x7 x8 x9 x10 hur
                        have y0 : w2.cell? ⟨Z, 5, none⟩ = some (.int .i64 v.kind) := by rw [Lib.cell_of_heap HBlk.out]; rfl
                        have y1 : w2.cell? ⟨Z, 6, none⟩ = some (.int .i64 v.num) := by rw [Lib.cell_of_heap HBlk.out]; rfl
                        have y2 : w2.cell? ⟨Z, 7, none⟩ = some (.float .f64 v.flt) := by rw [Lib.cell_of_heap HBlk.out]; rfl
                        have y3 : w2.cell? ⟨Z, 8, none⟩ = some (.string ⟨v.str.toArray⟩) := by rw [Lib.cell_of_heap HBlk.out]; rfl
                        have y4 : w2.cell? ⟨Z, 9, none⟩ = some (.slice pp v.names.length pc) := by rw [Lib.cell_of_heap HBlk.out]; rfl
                        have y5 : w2.cell? ⟨Z, 10, none⟩ = some (.slice p' v.items.length cap) := by rw [Lib.cell_of_heap HBlk.out]; rfl
                        have HV := Lib.hid (oval_any (d + 1) v #[.int .i64 v.kind, .int .i64 v.num, .float .f64 v.flt, .string ⟨v.str.toArray⟩, .slice pp v.names.length pc, .slice p' v.items.length cap] b (400000074 + 200000 * i + 10 * 5) _ (by omega) w2 hO2 (hv.kept (HUw.out _ hw2)))
                        clear hO2
                        go_wp2_with fail
                        refine (HV.out).mono ?_; rintro e w4 ⟨rfl, hO4, hF4⟩
                        have hw4 := hw2.trans hF4
                        go_wp2_with fail
                        go_roundw
                        case rel => exact ⟨i + 1, _, by go_num, by omega, by show _ = _; rw [hI.out, HST.out]; simp only [catO_assoc], hO4.more (by omega), hw4⟩
                        case measure => simp [intOf]; omega
                      · have t0 : decide ((i : Int) < (N4 : Int)) = false := by simp; omega
                        have HP5 : Hid (PE = catO q (some [])) := by show _ = _; rw [hI.out, List.drop_eq_nil_of_le (by rw [HN4.out]; omega)]; rw [show itsE false [] = some [] from rfl, catO_id]
                        have hO5 := hbd.more (m := 500000074) (by omega)
                        have hF5 := hwr
                        clear hI hbd hwr
                        generalize q = o5 at *
                        generalize wr = w5 at *
                        have hu := HUr.out _ hF5
                        obtain ⟨s, bad, hg, _, h1, h2⟩ := hO5
                        have k0 : w5.cell? ⟨b, 0, none⟩ = some (.string s) := by rw [Lib.cell_of_heap hg]; rfl
                        have k1 : w5.cell? ⟨b, 1, none⟩ = some (.bool bad) := by rw [Lib.cell_of_heap hg]; rfl
                        have HP : Hid (PE = o5) := by show _ = _; rw [HP5.out, catO_end]
                        clear HP5 hg
                        cases o5 with
                        | none =>
                          have hb := h2 rfl
                          subst hb
                          clear h1 h2
                          go_wp2_with fail
                          go_ret2
                          exact ⟨ret_val (by rw [HP.out]; rfl), by rw [HH.out]; exact hu⟩
                        | some l =>
                          obtain ⟨hb, hl⟩ := h1 l rfl
                          subst hb
                          have HL := Lib.hid hl
                          clear h1 h2 hl
                          go_wp2_with fail
                          go_ret2
                          exact ⟨ret_val (by rw [HP.out]; show Value.tuple #[.string s, .bool true] = .tuple #[.string ⟨l.toArray⟩, .bool true]; rw [ba_of HL.out]), by rw [HH.out]; exact hu⟩
end Go.Proofs.YtnaamiecljinnaaGreat
