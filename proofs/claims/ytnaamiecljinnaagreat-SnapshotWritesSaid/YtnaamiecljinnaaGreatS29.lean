/-
  Yw in one text.
-/
import Derived.Below
import Derived.BigQuiet
import Derived.Deep.Cut
import Derived.Deep.QuietTactic
import Derived.Deep.RegionHeld3
import Derived.Deep.RegionWith
import Derived.Defers
import Derived.Handy
import Derived.IntWalk
import Derived.Laws.Bits64b
import Derived.Laws.FloatBits
import Derived.Lib.AtoiAll
import Derived.Lib.Builder
import Derived.Lib.Bytes
import Derived.Lib.ConvBytes
import Derived.Lib.FrozenHead2
import Derived.Lib.Hide
import Derived.Lib.IndexMore
import Derived.Lib.ItoaNum
import Derived.Lib.MinMax
import Derived.Lib.OthersKept
import Derived.Lib.ParseIntB
import Derived.Lib.UnsafeStr
import Derived.LoopTactic
import Derived.OneCell
import Derived.OwnWalk
import Derived.Recover
import Derived.RegionTactic
import Derived.Tactics
import Derived.Tactics2
import Derived.Test.YtnaamiecljinnaaGreatChecked
import Derived.WalkKit
import Derived.WalkLawsBesides
import Derived.WalkSpells
import Ieee.Arith
import Derived.Test.YtnaamiecljinnaaGreatS00
import Derived.Test.YtnaamiecljinnaaGreatS02
import Derived.Test.YtnaamiecljinnaaGreatS08
import Derived.Test.YtnaamiecljinnaaGreatS18
namespace Go.Proofs.YtnaamiecljinnaaGreat
open Go.RowKit
theorem manyE_len {n : Int} {a : List UInt8} (h : manyE n = some a) : a.length ≤ 10 := by
  unfold manyE at h
  split at h
  · have := numsE_len _ _ h; simpa using this
  · cases h
theorem preB_some (a b : List UInt8) : preB a (some b) = some (a ++ b) := rfl
set_option maxRecDepth 100000 in
set_option maxHeartbeats 16000000 in
theorem wpart_any (P : PartT) (d : Nat) (h0s : SzOk true P.waits) (h1s : SzOk false P.spots) (h2s : SzOk false P.puts) (h3s : SzOk false P.letters) (h4s : SzOk false P.audits) (cs : Array Value) (p B b : Nat) (u w : World) (hu : u.heap.size ≤ B) (huw : Below u.heap.size u w) (hb : Bld 74 B b [] w)
    (hpa : PartAt u (d + 1) P cs) (hp : w.heap[p]? = some (.cells cs 28 (0, 0))) :
    Calls Tryz.prog 18 #[.pointer (some ⟨b, 0, none⟩), .pointer (some ⟨p, 0, none⟩)] w (WrOr 74 B b [] (partE P) w) := by
  have hne := hb.ne_of hp (by decide)
  have hsf : ∀ (a : Addr) (x : Nat) (m : Mode) (w : World), (store a (.float .f64 x) m).run Tryz.prog w = stored Tryz.prog w a (.float .f64 x) m := fun a x m w => run_store _ w a _ m rfl
  obtain ⟨_, _, _, _, _, rfl, ⟨s0, c0', rfl, hl0, hi0⟩, ⟨s1, c1', rfl, hl1, hi1⟩, ⟨s2, c2', rfl, hl2, hi2⟩, ⟨s3, c3', rfl, hl3, hi3⟩, ⟨s4, c4', rfl, hl4, hi4⟩⟩ := hpa
  have HIT0 := Lib.hid hi0; have HS0 := Lib.hid h0s
  generalize hN0 : P.waits.length = N0 at *
  have HN0 := Lib.hid hN0
  clear hi0 h0s hN0
  have HIT1 := Lib.hid hi1; have HS1 := Lib.hid h1s
  generalize hN1 : P.spots.length = N1 at *
  have HN1 := Lib.hid hN1
  clear hi1 h1s hN1
  have HIT2 := Lib.hid hi2; have HS2 := Lib.hid h2s
  generalize hN2 : P.puts.length = N2 at *
  have HN2 := Lib.hid hN2
  clear hi2 h2s hN2
  have HIT3 := Lib.hid hi3; have HS3 := Lib.hid h3s
  generalize hN3 : P.letters.length = N3 at *
  have HN3 := Lib.hid hN3
  clear hi3 h3s hN3
  have HIT4 := Lib.hid hi4; have HS4 := Lib.hid h4s
  generalize hN4 : P.audits.length = N4 at *
  have HN4 := Lib.hid hN4
  clear hi4 h4s hN4
  have HW := Lib.hid (hb.writeS bt_snap magicB (by decide))
  have HN := Lib.hid (fun g w' hb' hg' => snum_any [P.next, P.begun] 2 #[.int .i64 P.next, .int .i64 P.begun] rfl rfl (by omega) g B b magicB (by decide) w' hb' hg')
  have HK := Lib.hid (fun x (h : Wrote B b w x) => (show x.cell? ⟨p, 0, none⟩ = some (.int .i64 P.next) ∧ x.cell? ⟨p, 1, none⟩ = some (.int .i64 P.begun) from by
    have hb := h.block hp hne (by decide)
    exact ⟨by rw [Lib.cell_of_heap hb]; rfl, by rw [Lib.cell_of_heap hb]; rfl⟩))
  have HU := Lib.hid huw; clear huw
  have hPE : partE P = preB magicB (catO (numsE [P.next, P.begun]) (catO (listE true P.waits) (catO (listE false P.spots) (catO (listE false P.puts) (catO (listE false P.letters) (catO (listE false P.audits) (some []))))))) := rfl
  have hnl := fun r => numsE_len [P.next, P.begun] r
  generalize numsE [P.next, P.begun] = rn at *
  cases rn with
  | none =>
    have HX := Lib.hid (show partE P = none from hPE)
    clear hPE hnl
    go_enter Tryz.func18, Tryz.ntmps18
    go_wp2_with fail
    refine (HW.out).mono ?_; rintro e w1 ⟨rfl, hb1, hw1⟩
    rw [List.nil_append] at hb1
    have hp1 := hw1.block hp hne (by decide)
    have c0 : w1.cell? ⟨p, 0, none⟩ = some (.int .i64 P.next) := by rw [Lib.cell_of_heap hp1]; rfl
    have c1 : w1.cell? ⟨p, 1, none⟩ = some (.int .i64 P.begun) := by rw [Lib.cell_of_heap hp1]; rfl
    go_wp2_with fail
    go_region_with ((go_at_call 38; (with_reducible refine (HN.out _ _ (hb1.alloc _).drew (heap_alloc_new w1 _)).mono ?_); rintro e w2 ⟨rfl, hb2⟩; refine shut_way (w := w) ⟨rfl, by rw [HX.out]; exact ⟨rfl, (((hw1.alloc hb1.1 _).drew).1).trans hb2⟩⟩ ?_))
    all_goals trivial
  | some r =>
  have hrl := hnl r rfl
  simp at hrl
  have HP0 : Hid (partE P = preB (magicB ++ r) (catO (listE true P.waits) (catO (listE false P.spots) (catO (listE false P.puts) (catO (listE false P.letters) (catO (listE false P.audits) (some []))))))) := by show _ = _; rw [preB_app]; exact hPE
  clear hPE hnl
  go_enter Tryz.func18, Tryz.ntmps18
  go_wp2_with fail
  refine (HW.out).mono ?_; rintro e w1 ⟨rfl, hb1, hw1⟩
  rw [List.nil_append] at hb1
  have hp1 := hw1.block hp hne (by decide)
  have c0 : w1.cell? ⟨p, 0, none⟩ = some (.int .i64 P.next) := by rw [Lib.cell_of_heap hp1]; rfl
  have c1 : w1.cell? ⟨p, 1, none⟩ = some (.int .i64 P.begun) := by rw [Lib.cell_of_heap hp1]; rfl
  go_wp2_with fail
  go_region_held3 (fun w' => w'.cell? ⟨p, 0, none⟩ = some (.int .i64 P.next) ∧ w'.cell? ⟨p, 1, none⟩ = some (.int .i64 P.begun)) (first | exact ⟨c0, c1⟩ | go_keep | exact HK.out _ (((hw1.alloc hb1.1 _).drew).trans hw2)) ((go_at_call 38; (with_reducible refine (HN.out _ _ (hb1.alloc _).drew (heap_alloc_new w1 _)).mono ?_); rintro e w2 ⟨rfl, hb2, hw2⟩))
  have hw0 : Wrote B b w w2 := ((hw1.alloc hb1.1 _).drew).trans hw2
  have ho0 : (magicB ++ r).length ≤ 24 := by simp [magicB]; omega
  generalize magicB ++ r = o0 at *
  clear hw1 hw2 hp1 c0 c1 hb1 HK HN HW
  have hb0 := hb2; clear hb2
  generalize w2 = w0 at *
  have hp0 := hw0.block hp hne (by decide)
  have d0 : w0.cell? ⟨p, 2, none⟩ = some (.slice s0 N0 c0') := by rw [Lib.cell_of_heap hp0]; rfl
  have HM0 := Lib.hid (smany_any (N0 : Int) B b o0 (by omega) w0 hb0)
  go_wp2_with fail
  refine (HM0.out).mono ?_
  intro e wm hm
  have hml := fun a => @manyE_len (N0 : Int) a
  have hlE : listE true P.waits = catO (manyE (N0 : Int)) (itsE true P.waits) := by rw [listE, HN0.out]
  generalize manyE (N0 : Int) = r at *
  cases r with
  | none =>
    obtain ⟨rfl, hm⟩ := hm
    have HX := Lib.hid (show partE P = none by rw [HP0.out, hlE]; rfl)
    clear hml hlE
    go_wp2_with fail
    exact ⟨rfl, by rw [HX.out]; exact ⟨rfl, hw0.1.trans hm⟩⟩
  | some a =>
    obtain ⟨rfl, hbm, hwm⟩ := hm
    have hal := hml a rfl
    have hwm' := hw0.trans hwm
    have hpm := hwm'.block hp hne (by decide)
    have dm : wm.cell? ⟨p, 2, none⟩ = some (.slice s0 N0 c0') := by rw [Lib.cell_of_heap hpm]; rfl
    have HLE := Lib.hid hlE
    clear hml hlE hwm hp0 d0 hb0 hw0
    go_wp2_with fail
    clear dm
    go_loopw [41] (fun iv wr => ∃ (i : Nat) (q : List UInt8), iv = .int .i64 (i : Int) ∧ i ≤ N0 ∧ Hid (itsE true (P.waits.take i) = some q) ∧ Bld 74 B b (o0 ++ a ++ q) wr ∧ Wrote B b w wr) (fun iv _ => N0 - (intOf iv).toNat)
    case atStart => exact ⟨0, [], rfl, by omega, rfl, by rw [List.append_nil]; exact hbm, hwm'⟩
    case round =>
      clear hbm hwm' hpm
      obtain ⟨i, q, rfl, hi, hI, hbd, hwr⟩ := hrel
      have hq : q.length ≤ 17000000 := HS0.out i q hI.out
      have hol : (o0 ++ a ++ q).length ≤ 17000034 := by simp; omega
      by_cases hlt : i < N0
      · have t0 : decide ((i : Int) < (N0 : Int)) = true := by simp; omega
        have hlen : i < P.waits.length := by rw [HN0.out]; exact hlt
        obtain ⟨g, off, hsp, hgl, ds, hit, hcl⟩ := HIT0.out i hlt
        subst hsp
        have hyes := fun r => @its_step true P.waits i q r hlen hI.out
        have hno := @its_no true P.waits i hlen
        generalize P.waits.getD i ([], []) = x at *
        obtain ⟨a0, a1, a2, a3, a4, v, pp, pc, p', cap, rfl, hv, rfl⟩ := hit.open51
        have hur : Below u.heap.size u wr := HU.out.trans (hwr.1.mono hu)
        have x0 := (hur.cell (p := ⟨g, off + i * 11 + 0, none⟩) hgl).trans (hcl 0 (by omega))
        have x1 := (hur.cell (p := ⟨g, off + i * 11 + 1, none⟩) hgl).trans (hcl 1 (by omega))
        have x2 := (hur.cell (p := ⟨g, off + i * 11 + 2, none⟩) hgl).trans (hcl 2 (by omega))
        have x3 := (hur.cell (p := ⟨g, off + i * 11 + 3, none⟩) hgl).trans (hcl 3 (by omega))
        have x4 := (hur.cell (p := ⟨g, off + i * 11 + 4, none⟩) hgl).trans (hcl 4 (by omega))
        have x5 := (hur.cell (p := ⟨g, off + i * 11 + 5, none⟩) hgl).trans (hcl 5 (by omega))
        have x6 := (hur.cell (p := ⟨g, off + i * 11 + 6, none⟩) hgl).trans (hcl 6 (by omega))
        have x7 := (hur.cell (p := ⟨g, off + i * 11 + 7, none⟩) hgl).trans (hcl 7 (by omega))
        have x8 := (hur.cell (p := ⟨g, off + i * 11 + 8, none⟩) hgl).trans (hcl 8 (by omega))
        have x9 := (hur.cell (p := ⟨g, off + i * 11 + 9, none⟩) hgl).trans (hcl 9 (by omega))
        have x10 := (hur.cell (p := ⟨g, off + i * 11 + 10, none⟩) hgl).trans (hcl 10 (by omega))
        simp at x0 x1 x2 x3 x4 x5 x6 x7 x8 x9 x10
        have b1 : (0 : Int) ≤ (i : Int) := by omega
        have b2 : (i : Int) < (N0 : Int) := by omega
        have hie : itE true ([a0, a1, a2, a3, a4], [v]) = catO (numsE [a0, a1, a2, a3, a4]) (someE v) := rfl
        rw [hie] at hyes hno
        have hA : (wr.alloc (.cells #[.int .i64 a0, .int .i64 a1, .int .i64 a2, .int .i64 a3, .int .i64 a4, .int .i64 v.kind, .int .i64 v.num, .float .f64 v.flt, .string ⟨v.str.toArray⟩, .slice pp v.names.length pc, .slice p' v.items.length cap] 59)).heap[wr.heap.size]? = some (.cells #[.int .i64 a0, .int .i64 a1, .int .i64 a2, .int .i64 a3, .int .i64 a4, .int .i64 v.kind, .int .i64 v.num, .float .f64 v.flt, .string ⟨v.str.toArray⟩, .slice pp v.names.length pc, .slice p' v.items.length cap] 59 (0, 0)) := heap_alloc_new wr _
        have e1 : (wr.alloc (.cells #[.int .i64 a0, .int .i64 a1, .int .i64 a2, .int .i64 a3, .int .i64 a4, .int .i64 v.kind, .int .i64 v.num, .float .f64 v.flt, .string ⟨v.str.toArray⟩, .slice pp v.names.length pc, .slice p' v.items.length cap] 59)).heap.size = wr.heap.size + 1 := by simp
        have hbB := (hbd.alloc (.cells #[.int .i64 a0, .int .i64 a1, .int .i64 a2, .int .i64 a3, .int .i64 a4, .int .i64 v.kind, .int .i64 v.num, .float .f64 v.flt, .string ⟨v.str.toArray⟩, .slice pp v.names.length pc, .slice p' v.items.length cap] 59)).alloc (.cells #[.int .i64 a0, .int .i64 a1, .int .i64 a2, .int .i64 a3, .int .i64 a4] 3)
        have hwB := ((Wrote.refl B b wr).alloc hbd.1 (.cells #[.int .i64 a0, .int .i64 a1, .int .i64 a2, .int .i64 a3, .int .i64 a4, .int .i64 v.kind, .int .i64 v.num, .float .f64 v.flt, .string ⟨v.str.toArray⟩, .slice pp v.names.length pc, .slice p' v.items.length cap] 59)).alloc (hbd.alloc (.cells #[.int .i64 a0, .int .i64 a1, .int .i64 a2, .int .i64 a3, .int .i64 a4, .int .i64 v.kind, .int .i64 v.num, .float .f64 v.flt, .string ⟨v.str.toArray⟩, .slice pp v.names.length pc, .slice p' v.items.length cap] 59)).1 (.cells #[.int .i64 a0, .int .i64 a1, .int .i64 a2, .int .i64 a3, .int .i64 a4] 3)
        have hgB := heap_alloc_new (wr.alloc (.cells #[.int .i64 a0, .int .i64 a1, .int .i64 a2, .int .i64 a3, .int .i64 a4, .int .i64 v.kind, .int .i64 v.num, .float .f64 v.flt, .string ⟨v.str.toArray⟩, .slice pp v.names.length pc, .slice p' v.items.length cap] 59)) (.cells #[.int .i64 a0, .int .i64 a1, .int .i64 a2, .int .i64 a3, .int .i64 a4] 3)
        rw [e1] at hgB
        have HNU := Lib.hid (snum_any [a0, a1, a2, a3, a4] 5 #[.int .i64 a0, .int .i64 a1, .int .i64 a2, .int .i64 a3, .int .i64 a4] rfl rfl (by omega) (wr.heap.size + 1) B b (o0 ++ a ++ q) (by omega) _ hbB hgB)
        have hAB := (Lib.alloc_old _ (.cells #[.int .i64 a0, .int .i64 a1, .int .i64 a2, .int .i64 a3, .int .i64 a4] 3) wr.heap.size (by rw [e1]; omega)).trans hA
        have hnb : wr.heap.size ≠ b := by have := hbd.lt.1; omega
        have hcq := @numsE_len [a0, a1, a2, a3, a4]
        clear hgB hcl hit hI hA
        go_wp2_with fail
        refine (HNU.out).mono ?_
        generalize numsE [a0, a1, a2, a3, a4] = rn at *
        intro e w2 h2
        cases rn with
        | none =>
          obtain ⟨rfl, h2⟩ := h2
          have HX := Lib.hid (show partE P = none by rw [HP0.out, HLE.out, hno rfl]; rfl)
          clear hyes hno hcq
          go_wp2_with fail
          exact ⟨rfl, by rw [HX.out]; exact ⟨rfl, (hwr.trans hwB).1.trans h2⟩⟩
        | some qa =>
          obtain ⟨rfl, hb2, hw2⟩ := h2
          have hqa := hcq qa rfl
          simp at hqa
          have hblk := hw2.block hAB hnb (by decide)
          have hw3 := (hwr.trans hwB).trans hw2
          clear hcq
          have y0 : w2.cell? ⟨wr.heap.size, 5, none⟩ = some (.int .i64 v.kind) := by rw [Lib.cell_of_heap hblk]; rfl
          have y1 : w2.cell? ⟨wr.heap.size, 6, none⟩ = some (.int .i64 v.num) := by rw [Lib.cell_of_heap hblk]; rfl
          have y2 : w2.cell? ⟨wr.heap.size, 7, none⟩ = some (.float .f64 v.flt) := by rw [Lib.cell_of_heap hblk]; rfl
          have y3 : w2.cell? ⟨wr.heap.size, 8, none⟩ = some (.string ⟨v.str.toArray⟩) := by rw [Lib.cell_of_heap hblk]; rfl
          have y4 : w2.cell? ⟨wr.heap.size, 9, none⟩ = some (.slice pp v.names.length pc) := by rw [Lib.cell_of_heap hblk]; rfl
          have y5 : w2.cell? ⟨wr.heap.size, 10, none⟩ = some (.slice p' v.items.length cap) := by rw [Lib.cell_of_heap hblk]; rfl
          have hu2 : Below u.heap.size u w2 := HU.out.trans (hw3.1.mono hu)
          have HV := Lib.hid (ssome_any v d #[.int .i64 v.kind, .int .i64 v.num, .float .f64 v.flt, .string ⟨v.str.toArray⟩, .slice pp v.names.length pc, .slice p' v.items.length cap] B b (o0 ++ a ++ q ++ qa) (by rw [List.length_append]; omega) u w2 hu hu2 hb2 hv)
          clear hb2
          go_wp2_with fail
          refine (HV.out).mono ?_
          clear HV
          generalize someE v = rv at *
          intro e w4 h3
          cases rv with
          | none =>
            obtain ⟨rfl, h3⟩ := h3
            have HX := Lib.hid (show partE P = none by rw [HP0.out, HLE.out, hno rfl]; rfl)
            clear hyes hno
            go_wp2_with fail
            exact ⟨rfl, by rw [HX.out]; exact ⟨rfl, hw3.1.trans h3⟩⟩
          | some qb =>
            obtain ⟨rfl, hb4, h3w⟩ := h3
            have HY := Lib.hid (hyes (qa ++ qb) rfl)
            clear hyes hno
            go_wp2_with fail
            go_roundw
            case rel => exact ⟨i + 1, q ++ (qa ++ qb), by go_num, by omega, HY.out, by simp only [← List.append_assoc]; exact hb4, hw3.trans h3w⟩
            case measure => simp [intOf]; omega
      · have t0 : decide ((i : Int) < (N0 : Int)) = false := by simp; omega
        have hall := its_all (by rw [HN0.out]; omega) hI.out
        have HP1 : Hid (partE P = preB (o0 ++ a ++ q) (catO (listE false P.spots) (catO (listE false P.puts) (catO (listE false P.letters) (catO (listE false P.audits) (some [])))))) := by show _ = _; rw [HP0.out, HLE.out, hall]; simp only [catO_some, catO_preB, preB_app]
        clear hall hI HP0 HLE hq hal
        generalize o0 ++ a ++ q = o1 at *
        have hb1 := hbd; have hw1 := hwr; clear hbd hwr
        generalize wr = w1 at *
        have hp1 := hw1.block hp hne (by decide)
        have d1 : w1.cell? ⟨p, 3, none⟩ = some (.slice s1 N1 c1') := by rw [Lib.cell_of_heap hp1]; rfl
        have HM1 := Lib.hid (smany_any (N1 : Int) B b o1 (by omega) w1 hb1)
        go_wp2_with fail
        refine (HM1.out).mono ?_
        intro e wm hm
        have hml := fun a => @manyE_len (N1 : Int) a
        have hlE : listE false P.spots = catO (manyE (N1 : Int)) (itsE false P.spots) := by rw [listE, HN1.out]
        generalize manyE (N1 : Int) = r at *
        cases r with
        | none =>
          obtain ⟨rfl, hm⟩ := hm
          have HX := Lib.hid (show partE P = none by rw [HP1.out, hlE]; rfl)
          clear hml hlE
          go_wp2_with fail
          exact ⟨rfl, by rw [HX.out]; exact ⟨rfl, hw1.1.trans hm⟩⟩
        | some a =>
          obtain ⟨rfl, hbm, hwm⟩ := hm
          have hal := hml a rfl
          have hwm' := hw1.trans hwm
          have hpm := hwm'.block hp hne (by decide)
          have dm : wm.cell? ⟨p, 3, none⟩ = some (.slice s1 N1 c1') := by rw [Lib.cell_of_heap hpm]; rfl
          have HLE := Lib.hid hlE
          clear hml hlE hwm hp1 d1 hb1 hw1
          go_wp2_with fail
          clear dm
          go_loopw [77] (fun iv wr => ∃ (i : Nat) (q : List UInt8), iv = .int .i64 (i : Int) ∧ i ≤ N1 ∧ Hid (itsE false (P.spots.take i) = some q) ∧ Bld 74 B b (o1 ++ a ++ q) wr ∧ Wrote B b w wr) (fun iv _ => N1 - (intOf iv).toNat)
          case atStart => exact ⟨0, [], rfl, by omega, rfl, by rw [List.append_nil]; exact hbm, hwm'⟩
          case round =>
            clear hbm hwm' hpm
            obtain ⟨i, q, rfl, hi, hI, hbd, hwr⟩ := hrel
            have hq : q.length ≤ 17000000 := HS1.out i q hI.out
            have hol : (o1 ++ a ++ q).length ≤ 34000044 := by simp; omega
            by_cases hlt : i < N1
            · have t0 : decide ((i : Int) < (N1 : Int)) = true := by simp; omega
              have hlen : i < P.spots.length := by rw [HN1.out]; exact hlt
              obtain ⟨g, off, hsp, hgl, ds, hit, hcl⟩ := HIT1.out i hlt
              subst hsp
              have hyes := fun r => @its_step false P.spots i q r hlen hI.out
              have hno := @its_no false P.spots i hlen
              generalize P.spots.getD i ([], []) = x at *
              obtain ⟨a0, a1, a2, a3, rfl, rfl⟩ := hit.open40
              have hur : Below u.heap.size u wr := HU.out.trans (hwr.1.mono hu)
              have x0 := (hur.cell (p := ⟨g, off + i * 4 + 0, none⟩) hgl).trans (hcl 0 (by omega))
              have x1 := (hur.cell (p := ⟨g, off + i * 4 + 1, none⟩) hgl).trans (hcl 1 (by omega))
              have x2 := (hur.cell (p := ⟨g, off + i * 4 + 2, none⟩) hgl).trans (hcl 2 (by omega))
              have x3 := (hur.cell (p := ⟨g, off + i * 4 + 3, none⟩) hgl).trans (hcl 3 (by omega))
              simp at x0 x1 x2 x3
              have b1 : (0 : Int) ≤ (i : Int) := by omega
              have b2 : (i : Int) < (N1 : Int) := by omega
              have hie : itE false ([a0, a1, a2, a3], []) = catO (numsE [a0, a1, a2, a3]) ((some [] : Option (List UInt8))) := rfl
              rw [hie] at hyes hno
              have hA : (wr.alloc (.cells #[.int .i64 a0, .int .i64 a1, .int .i64 a2, .int .i64 a3] 52)).heap[wr.heap.size]? = some (.cells #[.int .i64 a0, .int .i64 a1, .int .i64 a2, .int .i64 a3] 52 (0, 0)) := heap_alloc_new wr _
              have e1 : (wr.alloc (.cells #[.int .i64 a0, .int .i64 a1, .int .i64 a2, .int .i64 a3] 52)).heap.size = wr.heap.size + 1 := by simp
              have hbB := (hbd.alloc (.cells #[.int .i64 a0, .int .i64 a1, .int .i64 a2, .int .i64 a3] 52)).alloc (.cells #[.int .i64 a0, .int .i64 a1, .int .i64 a2, .int .i64 a3] 3)
              have hwB := ((Wrote.refl B b wr).alloc hbd.1 (.cells #[.int .i64 a0, .int .i64 a1, .int .i64 a2, .int .i64 a3] 52)).alloc (hbd.alloc (.cells #[.int .i64 a0, .int .i64 a1, .int .i64 a2, .int .i64 a3] 52)).1 (.cells #[.int .i64 a0, .int .i64 a1, .int .i64 a2, .int .i64 a3] 3)
              have hgB := heap_alloc_new (wr.alloc (.cells #[.int .i64 a0, .int .i64 a1, .int .i64 a2, .int .i64 a3] 52)) (.cells #[.int .i64 a0, .int .i64 a1, .int .i64 a2, .int .i64 a3] 3)
              rw [e1] at hgB
              have HNU := Lib.hid (snum_any [a0, a1, a2, a3] 4 #[.int .i64 a0, .int .i64 a1, .int .i64 a2, .int .i64 a3] rfl rfl (by omega) (wr.heap.size + 1) B b (o1 ++ a ++ q) (by omega) _ hbB hgB)
              have hAB := (Lib.alloc_old _ (.cells #[.int .i64 a0, .int .i64 a1, .int .i64 a2, .int .i64 a3] 3) wr.heap.size (by rw [e1]; omega)).trans hA
              have hnb : wr.heap.size ≠ b := by have := hbd.lt.1; omega
              have hcq := @numsE_len [a0, a1, a2, a3]
              clear hgB hcl hit hI hA
              go_wp2_with fail
              refine (HNU.out).mono ?_
              generalize numsE [a0, a1, a2, a3] = rn at *
              intro e w2 h2
              cases rn with
              | none =>
                obtain ⟨rfl, h2⟩ := h2
                have HX := Lib.hid (show partE P = none by rw [HP1.out, HLE.out, hno rfl]; rfl)
                clear hyes hno hcq
                go_wp2_with fail
                exact ⟨rfl, by rw [HX.out]; exact ⟨rfl, (hwr.trans hwB).1.trans h2⟩⟩
              | some qa =>
                obtain ⟨rfl, hb2, hw2⟩ := h2
                have hqa := hcq qa rfl
                simp at hqa
                have hblk := hw2.block hAB hnb (by decide)
                have hw3 := (hwr.trans hwB).trans hw2
                clear hcq
                have HY := Lib.hid (hyes qa (by simp [catO, preB]))
                clear hyes hno
                go_wp2_with fail
                go_roundw
                case rel => exact ⟨i + 1, q ++ qa, by go_num, by omega, HY.out, by rw [← List.append_assoc]; exact hb2, hw3⟩
                case measure => simp [intOf]; omega
            · have t0 : decide ((i : Int) < (N1 : Int)) = false := by simp; omega
              have hall := its_all (by rw [HN1.out]; omega) hI.out
              have HP2 : Hid (partE P = preB (o1 ++ a ++ q) (catO (listE false P.puts) (catO (listE false P.letters) (catO (listE false P.audits) (some []))))) := by show _ = _; rw [HP1.out, HLE.out, hall]; simp only [catO_some, catO_preB, preB_app]
              clear hall hI HP1 HLE hq hal
              generalize o1 ++ a ++ q = o2 at *
              have hb2 := hbd; have hw2 := hwr; clear hbd hwr
              generalize wr = w2 at *
              have hp2 := hw2.block hp hne (by decide)
              have d2 : w2.cell? ⟨p, 4, none⟩ = some (.slice s2 N2 c2') := by rw [Lib.cell_of_heap hp2]; rfl
              have HM2 := Lib.hid (smany_any (N2 : Int) B b o2 (by omega) w2 hb2)
              go_wp2_with fail
              refine (HM2.out).mono ?_
              intro e wm hm
              have hml := fun a => @manyE_len (N2 : Int) a
              have hlE : listE false P.puts = catO (manyE (N2 : Int)) (itsE false P.puts) := by rw [listE, HN2.out]
              generalize manyE (N2 : Int) = r at *
              cases r with
              | none =>
                obtain ⟨rfl, hm⟩ := hm
                have HX := Lib.hid (show partE P = none by rw [HP2.out, hlE]; rfl)
                clear hml hlE
                go_wp2_with fail
                exact ⟨rfl, by rw [HX.out]; exact ⟨rfl, hw2.1.trans hm⟩⟩
              | some a =>
                obtain ⟨rfl, hbm, hwm⟩ := hm
                have hal := hml a rfl
                have hwm' := hw2.trans hwm
                have hpm := hwm'.block hp hne (by decide)
                have dm : wm.cell? ⟨p, 4, none⟩ = some (.slice s2 N2 c2') := by rw [Lib.cell_of_heap hpm]; rfl
                have HLE := Lib.hid hlE
                clear hml hlE hwm hp2 d2 hb2 hw2
                go_wp2_with fail
                clear dm
                go_loopw [107] (fun iv wr => ∃ (i : Nat) (q : List UInt8), iv = .int .i64 (i : Int) ∧ i ≤ N2 ∧ Hid (itsE false (P.puts.take i) = some q) ∧ Bld 74 B b (o2 ++ a ++ q) wr ∧ Wrote B b w wr) (fun iv _ => N2 - (intOf iv).toNat)
                case atStart => exact ⟨0, [], rfl, by omega, rfl, by rw [List.append_nil]; exact hbm, hwm'⟩
                case round =>
                  clear hbm hwm' hpm
                  obtain ⟨i, q, rfl, hi, hI, hbd, hwr⟩ := hrel
                  have hq : q.length ≤ 17000000 := HS2.out i q hI.out
                  have hol : (o2 ++ a ++ q).length ≤ 51000054 := by simp; omega
                  by_cases hlt : i < N2
                  · have t0 : decide ((i : Int) < (N2 : Int)) = true := by simp; omega
                    have hlen : i < P.puts.length := by rw [HN2.out]; exact hlt
                    obtain ⟨g, off, hsp, hgl, ds, hit, hcl⟩ := HIT2.out i hlt
                    subst hsp
                    have hyes := fun r => @its_step false P.puts i q r hlen hI.out
                    have hno := @its_no false P.puts i hlen
                    generalize P.puts.getD i ([], []) = x at *
                    obtain ⟨a0, a1, a2, v, pp, pc, p', cap, rfl, hv, rfl⟩ := hit.open31
                    have hur : Below u.heap.size u wr := HU.out.trans (hwr.1.mono hu)
                    have x0 := (hur.cell (p := ⟨g, off + i * 9 + 0, none⟩) hgl).trans (hcl 0 (by omega))
                    have x1 := (hur.cell (p := ⟨g, off + i * 9 + 1, none⟩) hgl).trans (hcl 1 (by omega))
                    have x2 := (hur.cell (p := ⟨g, off + i * 9 + 2, none⟩) hgl).trans (hcl 2 (by omega))
                    have x3 := (hur.cell (p := ⟨g, off + i * 9 + 3, none⟩) hgl).trans (hcl 3 (by omega))
                    have x4 := (hur.cell (p := ⟨g, off + i * 9 + 4, none⟩) hgl).trans (hcl 4 (by omega))
                    have x5 := (hur.cell (p := ⟨g, off + i * 9 + 5, none⟩) hgl).trans (hcl 5 (by omega))
                    have x6 := (hur.cell (p := ⟨g, off + i * 9 + 6, none⟩) hgl).trans (hcl 6 (by omega))
                    have x7 := (hur.cell (p := ⟨g, off + i * 9 + 7, none⟩) hgl).trans (hcl 7 (by omega))
                    have x8 := (hur.cell (p := ⟨g, off + i * 9 + 8, none⟩) hgl).trans (hcl 8 (by omega))
                    simp at x0 x1 x2 x3 x4 x5 x6 x7 x8
                    have b1 : (0 : Int) ≤ (i : Int) := by omega
                    have b2 : (i : Int) < (N2 : Int) := by omega
                    have hie : itE false ([a0, a1, a2], [v]) = catO (numsE [a0, a1, a2]) (valsE [v]) := rfl
                    rw [hie] at hyes hno
                    have hA : (wr.alloc (.cells #[.int .i64 a0, .int .i64 a1, .int .i64 a2, .int .i64 v.kind, .int .i64 v.num, .float .f64 v.flt, .string ⟨v.str.toArray⟩, .slice pp v.names.length pc, .slice p' v.items.length cap] 61)).heap[wr.heap.size]? = some (.cells #[.int .i64 a0, .int .i64 a1, .int .i64 a2, .int .i64 v.kind, .int .i64 v.num, .float .f64 v.flt, .string ⟨v.str.toArray⟩, .slice pp v.names.length pc, .slice p' v.items.length cap] 61 (0, 0)) := heap_alloc_new wr _
                    have e1 : (wr.alloc (.cells #[.int .i64 a0, .int .i64 a1, .int .i64 a2, .int .i64 v.kind, .int .i64 v.num, .float .f64 v.flt, .string ⟨v.str.toArray⟩, .slice pp v.names.length pc, .slice p' v.items.length cap] 61)).heap.size = wr.heap.size + 1 := by simp
                    have hbB := (hbd.alloc (.cells #[.int .i64 a0, .int .i64 a1, .int .i64 a2, .int .i64 v.kind, .int .i64 v.num, .float .f64 v.flt, .string ⟨v.str.toArray⟩, .slice pp v.names.length pc, .slice p' v.items.length cap] 61)).alloc (.cells #[.int .i64 a0, .int .i64 a1, .int .i64 a2] 3)
                    have hwB := ((Wrote.refl B b wr).alloc hbd.1 (.cells #[.int .i64 a0, .int .i64 a1, .int .i64 a2, .int .i64 v.kind, .int .i64 v.num, .float .f64 v.flt, .string ⟨v.str.toArray⟩, .slice pp v.names.length pc, .slice p' v.items.length cap] 61)).alloc (hbd.alloc (.cells #[.int .i64 a0, .int .i64 a1, .int .i64 a2, .int .i64 v.kind, .int .i64 v.num, .float .f64 v.flt, .string ⟨v.str.toArray⟩, .slice pp v.names.length pc, .slice p' v.items.length cap] 61)).1 (.cells #[.int .i64 a0, .int .i64 a1, .int .i64 a2] 3)
                    have hgB := heap_alloc_new (wr.alloc (.cells #[.int .i64 a0, .int .i64 a1, .int .i64 a2, .int .i64 v.kind, .int .i64 v.num, .float .f64 v.flt, .string ⟨v.str.toArray⟩, .slice pp v.names.length pc, .slice p' v.items.length cap] 61)) (.cells #[.int .i64 a0, .int .i64 a1, .int .i64 a2] 3)
                    rw [e1] at hgB
                    have HNU := Lib.hid (snum_any [a0, a1, a2] 3 #[.int .i64 a0, .int .i64 a1, .int .i64 a2] rfl rfl (by omega) (wr.heap.size + 1) B b (o2 ++ a ++ q) (by omega) _ hbB hgB)
                    have hAB := (Lib.alloc_old _ (.cells #[.int .i64 a0, .int .i64 a1, .int .i64 a2] 3) wr.heap.size (by rw [e1]; omega)).trans hA
                    have hnb : wr.heap.size ≠ b := by have := hbd.lt.1; omega
                    have hcq := @numsE_len [a0, a1, a2]
                    clear hgB hcl hit hI hA
                    go_wp2_with fail
                    refine (HNU.out).mono ?_
                    generalize numsE [a0, a1, a2] = rn at *
                    intro e w2 h2
                    cases rn with
                    | none =>
                      obtain ⟨rfl, h2⟩ := h2
                      have HX := Lib.hid (show partE P = none by rw [HP2.out, HLE.out, hno rfl]; rfl)
                      clear hyes hno hcq
                      go_wp2_with fail
                      exact ⟨rfl, by rw [HX.out]; exact ⟨rfl, (hwr.trans hwB).1.trans h2⟩⟩
                    | some qa =>
                      obtain ⟨rfl, hb2, hw2⟩ := h2
                      have hqa := hcq qa rfl
                      simp at hqa
                      have hblk := hw2.block hAB hnb (by decide)
                      have hw3 := (hwr.trans hwB).trans hw2
                      clear hcq
                      have y0 : w2.cell? ⟨wr.heap.size, 3, none⟩ = some (.int .i64 v.kind) := by rw [Lib.cell_of_heap hblk]; rfl
                      have y1 : w2.cell? ⟨wr.heap.size, 4, none⟩ = some (.int .i64 v.num) := by rw [Lib.cell_of_heap hblk]; rfl
                      have y2 : w2.cell? ⟨wr.heap.size, 5, none⟩ = some (.float .f64 v.flt) := by rw [Lib.cell_of_heap hblk]; rfl
                      have y3 : w2.cell? ⟨wr.heap.size, 6, none⟩ = some (.string ⟨v.str.toArray⟩) := by rw [Lib.cell_of_heap hblk]; rfl
                      have y4 : w2.cell? ⟨wr.heap.size, 7, none⟩ = some (.slice pp v.names.length pc) := by rw [Lib.cell_of_heap hblk]; rfl
                      have y5 : w2.cell? ⟨wr.heap.size, 8, none⟩ = some (.slice p' v.items.length cap) := by rw [Lib.cell_of_heap hblk]; rfl
                      have hu2 : Below u.heap.size u w2 := HU.out.trans (hw3.1.mono hu)
                      have hg3 := heap_alloc_new w2 (.cells #[.int .i64 v.kind, .int .i64 v.num, .float .f64 v.flt, .string ⟨v.str.toArray⟩, .slice pp v.names.length pc, .slice p' v.items.length cap] 57)
                      have HV := Lib.hid (sval_any [v] 1 (d + 1) rfl (by omega) w2.heap.size B b (o2 ++ a ++ q ++ qa) (by rw [List.length_append]; omega) u (w2.alloc (.cells #[.int .i64 v.kind, .int .i64 v.num, .float .f64 v.flt, .string ⟨v.str.toArray⟩, .slice pp v.names.length pc, .slice p' v.items.length cap] 57)) hu (hu2.trans (((Below.refl _ _).alloc (Nat.le_refl _) _).mono hu2.size)) (hb2.alloc _) #[.int .i64 v.kind, .int .i64 v.num, .float .f64 v.flt, .string ⟨v.str.toArray⟩, .slice pp v.names.length pc, .slice p' v.items.length cap] hg3 (fun i hi => by
                        have hi0 : i = 0 := by simpa using hi
                        subst hi0
                        exact ⟨#[.int .i64 v.kind, .int .i64 v.num, .float .f64 v.flt, .string ⟨v.str.toArray⟩, .slice pp v.names.length pc, .slice p' v.items.length cap], rfl, hv, fun j hj => by rw [Nat.zero_mul, Nat.zero_add, Lib.cell_of_heap hg3]⟩))
                      have hwv := (Wrote.refl B b w2).alloc hb2.1 (.cells #[.int .i64 v.kind, .int .i64 v.num, .float .f64 v.flt, .string ⟨v.str.toArray⟩, .slice pp v.names.length pc, .slice p' v.items.length cap] 57)
                      clear hb2
                      go_wp2_with fail
                      refine (HV.out).mono ?_
                      clear HV
                      generalize valsE [v] = rv at *
                      intro e w4 h3
                      cases rv with
                      | none =>
                        obtain ⟨rfl, h3⟩ := h3
                        have HX := Lib.hid (show partE P = none by rw [HP2.out, HLE.out, hno rfl]; rfl)
                        clear hyes hno
                        go_wp2_with fail
                        exact ⟨rfl, by rw [HX.out]; exact ⟨rfl, (hw3.trans hwv).1.trans h3⟩⟩
                      | some qb =>
                        obtain ⟨rfl, hb4, h3w⟩ := h3
                        have HY := Lib.hid (hyes (qa ++ qb) rfl)
                        clear hyes hno
                        go_wp2_with fail
                        go_roundw
                        case rel => exact ⟨i + 1, q ++ (qa ++ qb), by go_num, by omega, HY.out, by simp only [← List.append_assoc]; exact hb4, (hw3.trans hwv).trans h3w⟩
                        case measure => simp [intOf]; omega
                  · have t0 : decide ((i : Int) < (N2 : Int)) = false := by simp; omega
                    have hall := its_all (by rw [HN2.out]; omega) hI.out
                    have HP3 : Hid (partE P = preB (o2 ++ a ++ q) (catO (listE false P.letters) (catO (listE false P.audits) (some [])))) := by show _ = _; rw [HP2.out, HLE.out, hall]; simp only [catO_some, catO_preB, preB_app]
                    clear hall hI HP2 HLE hq hal
                    generalize o2 ++ a ++ q = o3 at *
                    have hb3 := hbd; have hw3 := hwr; clear hbd hwr
                    generalize wr = w3 at *
                    have hp3 := hw3.block hp hne (by decide)
                    have d3 : w3.cell? ⟨p, 5, none⟩ = some (.slice s3 N3 c3') := by rw [Lib.cell_of_heap hp3]; rfl
                    have HM3 := Lib.hid (smany_any (N3 : Int) B b o3 (by omega) w3 hb3)
                    go_wp2_with fail
                    refine (HM3.out).mono ?_
                    intro e wm hm
                    have hml := fun a => @manyE_len (N3 : Int) a
                    have hlE : listE false P.letters = catO (manyE (N3 : Int)) (itsE false P.letters) := by rw [listE, HN3.out]
                    generalize manyE (N3 : Int) = r at *
                    cases r with
                    | none =>
                      obtain ⟨rfl, hm⟩ := hm
                      have HX := Lib.hid (show partE P = none by rw [HP3.out, hlE]; rfl)
                      clear hml hlE
                      go_wp2_with fail
                      exact ⟨rfl, by rw [HX.out]; exact ⟨rfl, hw3.1.trans hm⟩⟩
                    | some a =>
                      obtain ⟨rfl, hbm, hwm⟩ := hm
                      have hal := hml a rfl
                      have hwm' := hw3.trans hwm
                      have hpm := hwm'.block hp hne (by decide)
                      have dm : wm.cell? ⟨p, 5, none⟩ = some (.slice s3 N3 c3') := by rw [Lib.cell_of_heap hpm]; rfl
                      have HLE := Lib.hid hlE
                      clear hml hlE hwm hp3 d3 hb3 hw3
                      go_wp2_with fail
                      clear dm
                      go_loopw [140] (fun iv wr => ∃ (i : Nat) (q : List UInt8), iv = .int .i64 (i : Int) ∧ i ≤ N3 ∧ Hid (itsE false (P.letters.take i) = some q) ∧ Bld 74 B b (o3 ++ a ++ q) wr ∧ Wrote B b w wr) (fun iv _ => N3 - (intOf iv).toNat)
                      case atStart => exact ⟨0, [], rfl, by omega, rfl, by rw [List.append_nil]; exact hbm, hwm'⟩
                      case round =>
                        clear hbm hwm' hpm
                        obtain ⟨i, q, rfl, hi, hI, hbd, hwr⟩ := hrel
                        have hq : q.length ≤ 17000000 := HS3.out i q hI.out
                        have hol : (o3 ++ a ++ q).length ≤ 68000064 := by simp; omega
                        by_cases hlt : i < N3
                        · have t0 : decide ((i : Int) < (N3 : Int)) = true := by simp; omega
                          have hlen : i < P.letters.length := by rw [HN3.out]; exact hlt
                          obtain ⟨g, off, hsp, hgl, ds, hit, hcl⟩ := HIT3.out i hlt
                          subst hsp
                          have hyes := fun r => @its_step false P.letters i q r hlen hI.out
                          have hno := @its_no false P.letters i hlen
                          generalize P.letters.getD i ([], []) = x at *
                          obtain ⟨a0, v, pp, pc, p', cap, v2, pp2, pc2, p2, cap2, rfl, hv, hv2, rfl⟩ := hit.open12
                          have hur : Below u.heap.size u wr := HU.out.trans (hwr.1.mono hu)
                          have x0 := (hur.cell (p := ⟨g, off + i * 13 + 0, none⟩) hgl).trans (hcl 0 (by omega))
                          have x1 := (hur.cell (p := ⟨g, off + i * 13 + 1, none⟩) hgl).trans (hcl 1 (by omega))
                          have x2 := (hur.cell (p := ⟨g, off + i * 13 + 2, none⟩) hgl).trans (hcl 2 (by omega))
                          have x3 := (hur.cell (p := ⟨g, off + i * 13 + 3, none⟩) hgl).trans (hcl 3 (by omega))
                          have x4 := (hur.cell (p := ⟨g, off + i * 13 + 4, none⟩) hgl).trans (hcl 4 (by omega))
                          have x5 := (hur.cell (p := ⟨g, off + i * 13 + 5, none⟩) hgl).trans (hcl 5 (by omega))
                          have x6 := (hur.cell (p := ⟨g, off + i * 13 + 6, none⟩) hgl).trans (hcl 6 (by omega))
                          have x7 := (hur.cell (p := ⟨g, off + i * 13 + 7, none⟩) hgl).trans (hcl 7 (by omega))
                          have x8 := (hur.cell (p := ⟨g, off + i * 13 + 8, none⟩) hgl).trans (hcl 8 (by omega))
                          have x9 := (hur.cell (p := ⟨g, off + i * 13 + 9, none⟩) hgl).trans (hcl 9 (by omega))
                          have x10 := (hur.cell (p := ⟨g, off + i * 13 + 10, none⟩) hgl).trans (hcl 10 (by omega))
                          have x11 := (hur.cell (p := ⟨g, off + i * 13 + 11, none⟩) hgl).trans (hcl 11 (by omega))
                          have x12 := (hur.cell (p := ⟨g, off + i * 13 + 12, none⟩) hgl).trans (hcl 12 (by omega))
                          simp at x0 x1 x2 x3 x4 x5 x6 x7 x8 x9 x10 x11 x12
                          have b1 : (0 : Int) ≤ (i : Int) := by omega
                          have b2 : (i : Int) < (N3 : Int) := by omega
                          have hie : itE false ([a0], [v, v2]) = catO (numsE [a0]) (valsE [v, v2]) := rfl
                          rw [hie] at hyes hno
                          have hA : (wr.alloc (.cells #[.int .i64 a0, .int .i64 v.kind, .int .i64 v.num, .float .f64 v.flt, .string ⟨v.str.toArray⟩, .slice pp v.names.length pc, .slice p' v.items.length cap, .int .i64 v2.kind, .int .i64 v2.num, .float .f64 v2.flt, .string ⟨v2.str.toArray⟩, .slice pp2 v2.names.length pc2, .slice p2 v2.items.length cap2] 63)).heap[wr.heap.size]? = some (.cells #[.int .i64 a0, .int .i64 v.kind, .int .i64 v.num, .float .f64 v.flt, .string ⟨v.str.toArray⟩, .slice pp v.names.length pc, .slice p' v.items.length cap, .int .i64 v2.kind, .int .i64 v2.num, .float .f64 v2.flt, .string ⟨v2.str.toArray⟩, .slice pp2 v2.names.length pc2, .slice p2 v2.items.length cap2] 63 (0, 0)) := heap_alloc_new wr _
                          have e1 : (wr.alloc (.cells #[.int .i64 a0, .int .i64 v.kind, .int .i64 v.num, .float .f64 v.flt, .string ⟨v.str.toArray⟩, .slice pp v.names.length pc, .slice p' v.items.length cap, .int .i64 v2.kind, .int .i64 v2.num, .float .f64 v2.flt, .string ⟨v2.str.toArray⟩, .slice pp2 v2.names.length pc2, .slice p2 v2.items.length cap2] 63)).heap.size = wr.heap.size + 1 := by simp
                          have hbB := (hbd.alloc (.cells #[.int .i64 a0, .int .i64 v.kind, .int .i64 v.num, .float .f64 v.flt, .string ⟨v.str.toArray⟩, .slice pp v.names.length pc, .slice p' v.items.length cap, .int .i64 v2.kind, .int .i64 v2.num, .float .f64 v2.flt, .string ⟨v2.str.toArray⟩, .slice pp2 v2.names.length pc2, .slice p2 v2.items.length cap2] 63)).alloc (.cells #[.int .i64 a0] 3)
                          have hwB := ((Wrote.refl B b wr).alloc hbd.1 (.cells #[.int .i64 a0, .int .i64 v.kind, .int .i64 v.num, .float .f64 v.flt, .string ⟨v.str.toArray⟩, .slice pp v.names.length pc, .slice p' v.items.length cap, .int .i64 v2.kind, .int .i64 v2.num, .float .f64 v2.flt, .string ⟨v2.str.toArray⟩, .slice pp2 v2.names.length pc2, .slice p2 v2.items.length cap2] 63)).alloc (hbd.alloc (.cells #[.int .i64 a0, .int .i64 v.kind, .int .i64 v.num, .float .f64 v.flt, .string ⟨v.str.toArray⟩, .slice pp v.names.length pc, .slice p' v.items.length cap, .int .i64 v2.kind, .int .i64 v2.num, .float .f64 v2.flt, .string ⟨v2.str.toArray⟩, .slice pp2 v2.names.length pc2, .slice p2 v2.items.length cap2] 63)).1 (.cells #[.int .i64 a0] 3)
                          have hgB := heap_alloc_new (wr.alloc (.cells #[.int .i64 a0, .int .i64 v.kind, .int .i64 v.num, .float .f64 v.flt, .string ⟨v.str.toArray⟩, .slice pp v.names.length pc, .slice p' v.items.length cap, .int .i64 v2.kind, .int .i64 v2.num, .float .f64 v2.flt, .string ⟨v2.str.toArray⟩, .slice pp2 v2.names.length pc2, .slice p2 v2.items.length cap2] 63)) (.cells #[.int .i64 a0] 3)
                          rw [e1] at hgB
                          have HNU := Lib.hid (snum_any [a0] 1 #[.int .i64 a0] rfl rfl (by omega) (wr.heap.size + 1) B b (o3 ++ a ++ q) (by omega) _ hbB hgB)
                          have hAB := (Lib.alloc_old _ (.cells #[.int .i64 a0] 3) wr.heap.size (by rw [e1]; omega)).trans hA
                          have hnb : wr.heap.size ≠ b := by have := hbd.lt.1; omega
                          have hcq := @numsE_len [a0]
                          clear hgB hcl hit hI hA
                          go_wp2_with fail
                          refine (HNU.out).mono ?_
                          generalize numsE [a0] = rn at *
                          intro e w2 h2
                          cases rn with
                          | none =>
                            obtain ⟨rfl, h2⟩ := h2
                            have HX := Lib.hid (show partE P = none by rw [HP3.out, HLE.out, hno rfl]; rfl)
                            clear hyes hno hcq
                            go_wp2_with fail
                            exact ⟨rfl, by rw [HX.out]; exact ⟨rfl, (hwr.trans hwB).1.trans h2⟩⟩
                          | some qa =>
                            obtain ⟨rfl, hb2, hw2⟩ := h2
                            have hqa := hcq qa rfl
                            simp at hqa
                            have hblk := hw2.block hAB hnb (by decide)
                            have hw3 := (hwr.trans hwB).trans hw2
                            clear hcq
                            have y0 : w2.cell? ⟨wr.heap.size, 1, none⟩ = some (.int .i64 v.kind) := by rw [Lib.cell_of_heap hblk]; rfl
                            have y1 : w2.cell? ⟨wr.heap.size, 2, none⟩ = some (.int .i64 v.num) := by rw [Lib.cell_of_heap hblk]; rfl
                            have y2 : w2.cell? ⟨wr.heap.size, 3, none⟩ = some (.float .f64 v.flt) := by rw [Lib.cell_of_heap hblk]; rfl
                            have y3 : w2.cell? ⟨wr.heap.size, 4, none⟩ = some (.string ⟨v.str.toArray⟩) := by rw [Lib.cell_of_heap hblk]; rfl
                            have y4 : w2.cell? ⟨wr.heap.size, 5, none⟩ = some (.slice pp v.names.length pc) := by rw [Lib.cell_of_heap hblk]; rfl
                            have y5 : w2.cell? ⟨wr.heap.size, 6, none⟩ = some (.slice p' v.items.length cap) := by rw [Lib.cell_of_heap hblk]; rfl
                            have y6 : w2.cell? ⟨wr.heap.size, 7, none⟩ = some (.int .i64 v2.kind) := by rw [Lib.cell_of_heap hblk]; rfl
                            have y7 : w2.cell? ⟨wr.heap.size, 8, none⟩ = some (.int .i64 v2.num) := by rw [Lib.cell_of_heap hblk]; rfl
                            have y8 : w2.cell? ⟨wr.heap.size, 9, none⟩ = some (.float .f64 v2.flt) := by rw [Lib.cell_of_heap hblk]; rfl
                            have y9 : w2.cell? ⟨wr.heap.size, 10, none⟩ = some (.string ⟨v2.str.toArray⟩) := by rw [Lib.cell_of_heap hblk]; rfl
                            have y10 : w2.cell? ⟨wr.heap.size, 11, none⟩ = some (.slice pp2 v2.names.length pc2) := by rw [Lib.cell_of_heap hblk]; rfl
                            have y11 : w2.cell? ⟨wr.heap.size, 12, none⟩ = some (.slice p2 v2.items.length cap2) := by rw [Lib.cell_of_heap hblk]; rfl
                            have hu2 : Below u.heap.size u w2 := HU.out.trans (hw3.1.mono hu)
                            have hg3 := heap_alloc_new w2 (.cells #[.int .i64 v.kind, .int .i64 v.num, .float .f64 v.flt, .string ⟨v.str.toArray⟩, .slice pp v.names.length pc, .slice p' v.items.length cap, .int .i64 v2.kind, .int .i64 v2.num, .float .f64 v2.flt, .string ⟨v2.str.toArray⟩, .slice pp2 v2.names.length pc2, .slice p2 v2.items.length cap2] 57)
                            have HV := Lib.hid (sval_any [v, v2] 2 (d + 1) rfl (by omega) w2.heap.size B b (o3 ++ a ++ q ++ qa) (by rw [List.length_append]; omega) u (w2.alloc (.cells #[.int .i64 v.kind, .int .i64 v.num, .float .f64 v.flt, .string ⟨v.str.toArray⟩, .slice pp v.names.length pc, .slice p' v.items.length cap, .int .i64 v2.kind, .int .i64 v2.num, .float .f64 v2.flt, .string ⟨v2.str.toArray⟩, .slice pp2 v2.names.length pc2, .slice p2 v2.items.length cap2] 57)) hu (hu2.trans (((Below.refl _ _).alloc (Nat.le_refl _) _).mono hu2.size)) (hb2.alloc _) #[.int .i64 v.kind, .int .i64 v.num, .float .f64 v.flt, .string ⟨v.str.toArray⟩, .slice pp v.names.length pc, .slice p' v.items.length cap, .int .i64 v2.kind, .int .i64 v2.num, .float .f64 v2.flt, .string ⟨v2.str.toArray⟩, .slice pp2 v2.names.length pc2, .slice p2 v2.items.length cap2] hg3 (fun i hi => by
                              have hi0 : i = 0 ∨ i = 1 := by simp at hi; omega
                              rcases hi0 with rfl | rfl
                              · exact ⟨#[.int .i64 v.kind, .int .i64 v.num, .float .f64 v.flt, .string ⟨v.str.toArray⟩, .slice pp v.names.length pc, .slice p' v.items.length cap], rfl, hv, fun j hj => by
                                  rw [Nat.zero_mul, Nat.zero_add, Lib.cell_of_heap hg3]
                                  have : j = 0 ∨ j = 1 ∨ j = 2 ∨ j = 3 ∨ j = 4 ∨ j = 5 := by omega
                                  rcases this with rfl | rfl | rfl | rfl | rfl | rfl <;> rfl⟩
                              · exact ⟨#[.int .i64 v2.kind, .int .i64 v2.num, .float .f64 v2.flt, .string ⟨v2.str.toArray⟩, .slice pp2 v2.names.length pc2, .slice p2 v2.items.length cap2], rfl, hv2, fun j hj => by
                                  rw [Nat.one_mul, Lib.cell_of_heap hg3]
                                  have : j = 0 ∨ j = 1 ∨ j = 2 ∨ j = 3 ∨ j = 4 ∨ j = 5 := by omega
                                  rcases this with rfl | rfl | rfl | rfl | rfl | rfl <;> rfl⟩))
                            have hwv := (Wrote.refl B b w2).alloc hb2.1 (.cells #[.int .i64 v.kind, .int .i64 v.num, .float .f64 v.flt, .string ⟨v.str.toArray⟩, .slice pp v.names.length pc, .slice p' v.items.length cap, .int .i64 v2.kind, .int .i64 v2.num, .float .f64 v2.flt, .string ⟨v2.str.toArray⟩, .slice pp2 v2.names.length pc2, .slice p2 v2.items.length cap2] 57)
                            clear hb2
                            go_wp2_with fail
                            refine (HV.out).mono ?_
                            clear HV
                            generalize valsE [v, v2] = rv at *
                            intro e w4 h3
                            cases rv with
                            | none =>
                              obtain ⟨rfl, h3⟩ := h3
                              have HX := Lib.hid (show partE P = none by rw [HP3.out, HLE.out, hno rfl]; rfl)
                              clear hyes hno
                              go_wp2_with fail
                              exact ⟨rfl, by rw [HX.out]; exact ⟨rfl, (hw3.trans hwv).1.trans h3⟩⟩
                            | some qb =>
                              obtain ⟨rfl, hb4, h3w⟩ := h3
                              have HY := Lib.hid (hyes (qa ++ qb) rfl)
                              clear hyes hno
                              go_wp2_with fail
                              go_roundw
                              case rel => exact ⟨i + 1, q ++ (qa ++ qb), by go_num, by omega, HY.out, by simp only [← List.append_assoc]; exact hb4, (hw3.trans hwv).trans h3w⟩
                              case measure => simp [intOf]; omega
                        · have t0 : decide ((i : Int) < (N3 : Int)) = false := by simp; omega
                          have hall := its_all (by rw [HN3.out]; omega) hI.out
                          have HP4 : Hid (partE P = preB (o3 ++ a ++ q) (catO (listE false P.audits) (some []))) := by show _ = _; rw [HP3.out, HLE.out, hall]; simp only [catO_some, catO_preB, preB_app]
                          clear hall hI HP3 HLE hq hal
                          generalize o3 ++ a ++ q = o4 at *
                          have hb4 := hbd; have hw4 := hwr; clear hbd hwr
                          generalize wr = w4 at *
                          have hp4 := hw4.block hp hne (by decide)
                          have d4 : w4.cell? ⟨p, 6, none⟩ = some (.slice s4 N4 c4') := by rw [Lib.cell_of_heap hp4]; rfl
                          have HM4 := Lib.hid (smany_any (N4 : Int) B b o4 (by omega) w4 hb4)
                          go_wp2_with fail
                          refine (HM4.out).mono ?_
                          intro e wm hm
                          have hml := fun a => @manyE_len (N4 : Int) a
                          have hlE : listE false P.audits = catO (manyE (N4 : Int)) (itsE false P.audits) := by rw [listE, HN4.out]
                          generalize manyE (N4 : Int) = r at *
                          cases r with
                          | none =>
                            obtain ⟨rfl, hm⟩ := hm
                            have HX := Lib.hid (show partE P = none by rw [HP4.out, hlE]; rfl)
                            clear hml hlE
                            go_wp2_with fail
                            exact ⟨rfl, by rw [HX.out]; exact ⟨rfl, hw4.1.trans hm⟩⟩
                          | some a =>
                            obtain ⟨rfl, hbm, hwm⟩ := hm
                            have hal := hml a rfl
                            have hwm' := hw4.trans hwm
                            have hpm := hwm'.block hp hne (by decide)
                            have dm : wm.cell? ⟨p, 6, none⟩ = some (.slice s4 N4 c4') := by rw [Lib.cell_of_heap hpm]; rfl
                            have HLE := Lib.hid hlE
                            clear hml hlE hwm hp4 d4 hb4 hw4
                            go_wp2_with fail
                            clear dm
                            go_loopw [169] (fun iv wr => ∃ (i : Nat) (q : List UInt8), iv = .int .i64 (i : Int) ∧ i ≤ N4 ∧ Hid (itsE false (P.audits.take i) = some q) ∧ Bld 74 B b (o4 ++ a ++ q) wr ∧ Wrote B b w wr) (fun iv _ => N4 - (intOf iv).toNat)
                            case atStart => exact ⟨0, [], rfl, by omega, rfl, by rw [List.append_nil]; exact hbm, hwm'⟩
                            case round =>
                              clear hbm hwm' hpm
                              obtain ⟨i, q, rfl, hi, hI, hbd, hwr⟩ := hrel
                              have hq : q.length ≤ 17000000 := HS4.out i q hI.out
                              have hol : (o4 ++ a ++ q).length ≤ 85000074 := by simp; omega
                              by_cases hlt : i < N4
                              · have t0 : decide ((i : Int) < (N4 : Int)) = true := by simp; omega
                                have hlen : i < P.audits.length := by rw [HN4.out]; exact hlt
                                obtain ⟨g, off, hsp, hgl, ds, hit, hcl⟩ := HIT4.out i hlt
                                subst hsp
                                have hyes := fun r => @its_step false P.audits i q r hlen hI.out
                                have hno := @its_no false P.audits i hlen
                                generalize P.audits.getD i ([], []) = x at *
                                obtain ⟨a0, a1, a2, a3, a4, v, pp, pc, p', cap, rfl, hv, rfl⟩ := hit.open51
                                have hur : Below u.heap.size u wr := HU.out.trans (hwr.1.mono hu)
                                have x0 := (hur.cell (p := ⟨g, off + i * 11 + 0, none⟩) hgl).trans (hcl 0 (by omega))
                                have x1 := (hur.cell (p := ⟨g, off + i * 11 + 1, none⟩) hgl).trans (hcl 1 (by omega))
                                have x2 := (hur.cell (p := ⟨g, off + i * 11 + 2, none⟩) hgl).trans (hcl 2 (by omega))
                                have x3 := (hur.cell (p := ⟨g, off + i * 11 + 3, none⟩) hgl).trans (hcl 3 (by omega))
                                have x4 := (hur.cell (p := ⟨g, off + i * 11 + 4, none⟩) hgl).trans (hcl 4 (by omega))
                                have x5 := (hur.cell (p := ⟨g, off + i * 11 + 5, none⟩) hgl).trans (hcl 5 (by omega))
                                have x6 := (hur.cell (p := ⟨g, off + i * 11 + 6, none⟩) hgl).trans (hcl 6 (by omega))
                                have x7 := (hur.cell (p := ⟨g, off + i * 11 + 7, none⟩) hgl).trans (hcl 7 (by omega))
                                have x8 := (hur.cell (p := ⟨g, off + i * 11 + 8, none⟩) hgl).trans (hcl 8 (by omega))
                                have x9 := (hur.cell (p := ⟨g, off + i * 11 + 9, none⟩) hgl).trans (hcl 9 (by omega))
                                have x10 := (hur.cell (p := ⟨g, off + i * 11 + 10, none⟩) hgl).trans (hcl 10 (by omega))
                                simp at x0 x1 x2 x3 x4 x5 x6 x7 x8 x9 x10
                                have b1 : (0 : Int) ≤ (i : Int) := by omega
                                have b2 : (i : Int) < (N4 : Int) := by omega
                                have hie : itE false ([a0, a1, a2, a3, a4], [v]) = catO (numsE [a0, a1, a2, a3, a4]) (valsE [v]) := rfl
                                rw [hie] at hyes hno
                                have hA : (wr.alloc (.cells #[.int .i64 a0, .int .i64 a1, .int .i64 a2, .int .i64 a3, .int .i64 a4, .int .i64 v.kind, .int .i64 v.num, .float .f64 v.flt, .string ⟨v.str.toArray⟩, .slice pp v.names.length pc, .slice p' v.items.length cap] 65)).heap[wr.heap.size]? = some (.cells #[.int .i64 a0, .int .i64 a1, .int .i64 a2, .int .i64 a3, .int .i64 a4, .int .i64 v.kind, .int .i64 v.num, .float .f64 v.flt, .string ⟨v.str.toArray⟩, .slice pp v.names.length pc, .slice p' v.items.length cap] 65 (0, 0)) := heap_alloc_new wr _
                                have e1 : (wr.alloc (.cells #[.int .i64 a0, .int .i64 a1, .int .i64 a2, .int .i64 a3, .int .i64 a4, .int .i64 v.kind, .int .i64 v.num, .float .f64 v.flt, .string ⟨v.str.toArray⟩, .slice pp v.names.length pc, .slice p' v.items.length cap] 65)).heap.size = wr.heap.size + 1 := by simp
                                have hbB := (hbd.alloc (.cells #[.int .i64 a0, .int .i64 a1, .int .i64 a2, .int .i64 a3, .int .i64 a4, .int .i64 v.kind, .int .i64 v.num, .float .f64 v.flt, .string ⟨v.str.toArray⟩, .slice pp v.names.length pc, .slice p' v.items.length cap] 65)).alloc (.cells #[.int .i64 a0, .int .i64 a1, .int .i64 a2, .int .i64 a3, .int .i64 a4] 3)
                                have hwB := ((Wrote.refl B b wr).alloc hbd.1 (.cells #[.int .i64 a0, .int .i64 a1, .int .i64 a2, .int .i64 a3, .int .i64 a4, .int .i64 v.kind, .int .i64 v.num, .float .f64 v.flt, .string ⟨v.str.toArray⟩, .slice pp v.names.length pc, .slice p' v.items.length cap] 65)).alloc (hbd.alloc (.cells #[.int .i64 a0, .int .i64 a1, .int .i64 a2, .int .i64 a3, .int .i64 a4, .int .i64 v.kind, .int .i64 v.num, .float .f64 v.flt, .string ⟨v.str.toArray⟩, .slice pp v.names.length pc, .slice p' v.items.length cap] 65)).1 (.cells #[.int .i64 a0, .int .i64 a1, .int .i64 a2, .int .i64 a3, .int .i64 a4] 3)
                                have hgB := heap_alloc_new (wr.alloc (.cells #[.int .i64 a0, .int .i64 a1, .int .i64 a2, .int .i64 a3, .int .i64 a4, .int .i64 v.kind, .int .i64 v.num, .float .f64 v.flt, .string ⟨v.str.toArray⟩, .slice pp v.names.length pc, .slice p' v.items.length cap] 65)) (.cells #[.int .i64 a0, .int .i64 a1, .int .i64 a2, .int .i64 a3, .int .i64 a4] 3)
                                rw [e1] at hgB
                                have HNU := Lib.hid (snum_any [a0, a1, a2, a3, a4] 5 #[.int .i64 a0, .int .i64 a1, .int .i64 a2, .int .i64 a3, .int .i64 a4] rfl rfl (by omega) (wr.heap.size + 1) B b (o4 ++ a ++ q) (by omega) _ hbB hgB)
                                have hAB := (Lib.alloc_old _ (.cells #[.int .i64 a0, .int .i64 a1, .int .i64 a2, .int .i64 a3, .int .i64 a4] 3) wr.heap.size (by rw [e1]; omega)).trans hA
                                have hnb : wr.heap.size ≠ b := by have := hbd.lt.1; omega
                                have hcq := @numsE_len [a0, a1, a2, a3, a4]
                                clear hgB hcl hit hI hA
                                go_wp2_with fail
                                refine (HNU.out).mono ?_
                                generalize numsE [a0, a1, a2, a3, a4] = rn at *
                                intro e w2 h2
                                cases rn with
                                | none =>
                                  obtain ⟨rfl, h2⟩ := h2
                                  have HX := Lib.hid (show partE P = none by rw [HP4.out, HLE.out, hno rfl]; rfl)
                                  clear hyes hno hcq
                                  go_wp2_with fail
                                  exact ⟨rfl, by rw [HX.out]; exact ⟨rfl, (hwr.trans hwB).1.trans h2⟩⟩
                                | some qa =>
                                  obtain ⟨rfl, hb2, hw2⟩ := h2
                                  have hqa := hcq qa rfl
                                  simp at hqa
                                  have hblk := hw2.block hAB hnb (by decide)
                                  have hw3 := (hwr.trans hwB).trans hw2
                                  clear hcq
                                  have y0 : w2.cell? ⟨wr.heap.size, 5, none⟩ = some (.int .i64 v.kind) := by rw [Lib.cell_of_heap hblk]; rfl
                                  have y1 : w2.cell? ⟨wr.heap.size, 6, none⟩ = some (.int .i64 v.num) := by rw [Lib.cell_of_heap hblk]; rfl
                                  have y2 : w2.cell? ⟨wr.heap.size, 7, none⟩ = some (.float .f64 v.flt) := by rw [Lib.cell_of_heap hblk]; rfl
                                  have y3 : w2.cell? ⟨wr.heap.size, 8, none⟩ = some (.string ⟨v.str.toArray⟩) := by rw [Lib.cell_of_heap hblk]; rfl
                                  have y4 : w2.cell? ⟨wr.heap.size, 9, none⟩ = some (.slice pp v.names.length pc) := by rw [Lib.cell_of_heap hblk]; rfl
                                  have y5 : w2.cell? ⟨wr.heap.size, 10, none⟩ = some (.slice p' v.items.length cap) := by rw [Lib.cell_of_heap hblk]; rfl
                                  have hu2 : Below u.heap.size u w2 := HU.out.trans (hw3.1.mono hu)
                                  have hg3 := heap_alloc_new w2 (.cells #[.int .i64 v.kind, .int .i64 v.num, .float .f64 v.flt, .string ⟨v.str.toArray⟩, .slice pp v.names.length pc, .slice p' v.items.length cap] 57)
                                  have HV := Lib.hid (sval_any [v] 1 (d + 1) rfl (by omega) w2.heap.size B b (o4 ++ a ++ q ++ qa) (by rw [List.length_append]; omega) u (w2.alloc (.cells #[.int .i64 v.kind, .int .i64 v.num, .float .f64 v.flt, .string ⟨v.str.toArray⟩, .slice pp v.names.length pc, .slice p' v.items.length cap] 57)) hu (hu2.trans (((Below.refl _ _).alloc (Nat.le_refl _) _).mono hu2.size)) (hb2.alloc _) #[.int .i64 v.kind, .int .i64 v.num, .float .f64 v.flt, .string ⟨v.str.toArray⟩, .slice pp v.names.length pc, .slice p' v.items.length cap] hg3 (fun i hi => by
                                    have hi0 : i = 0 := by simpa using hi
                                    subst hi0
                                    exact ⟨#[.int .i64 v.kind, .int .i64 v.num, .float .f64 v.flt, .string ⟨v.str.toArray⟩, .slice pp v.names.length pc, .slice p' v.items.length cap], rfl, hv, fun j hj => by rw [Nat.zero_mul, Nat.zero_add, Lib.cell_of_heap hg3]⟩))
                                  have hwv := (Wrote.refl B b w2).alloc hb2.1 (.cells #[.int .i64 v.kind, .int .i64 v.num, .float .f64 v.flt, .string ⟨v.str.toArray⟩, .slice pp v.names.length pc, .slice p' v.items.length cap] 57)
                                  clear hb2
                                  go_wp2_with fail
                                  refine (HV.out).mono ?_
                                  clear HV
                                  generalize valsE [v] = rv at *
                                  intro e w4 h3
                                  cases rv with
                                  | none =>
                                    obtain ⟨rfl, h3⟩ := h3
                                    have HX := Lib.hid (show partE P = none by rw [HP4.out, HLE.out, hno rfl]; rfl)
                                    clear hyes hno
                                    go_wp2_with fail
                                    exact ⟨rfl, by rw [HX.out]; exact ⟨rfl, (hw3.trans hwv).1.trans h3⟩⟩
                                  | some qb =>
                                    obtain ⟨rfl, hb4, h3w⟩ := h3
                                    have HY := Lib.hid (hyes (qa ++ qb) rfl)
                                    clear hyes hno
                                    go_wp2_with fail
                                    go_roundw
                                    case rel => exact ⟨i + 1, q ++ (qa ++ qb), by go_num, by omega, HY.out, by simp only [← List.append_assoc]; exact hb4, (hw3.trans hwv).trans h3w⟩
                                    case measure => simp [intOf]; omega
                              · have t0 : decide ((i : Int) < (N4 : Int)) = false := by simp; omega
                                have hall := its_all (by rw [HN4.out]; omega) hI.out
                                have HP5 : Hid (partE P = preB (o4 ++ a ++ q) (some [])) := by show _ = _; rw [HP4.out, HLE.out, hall]; simp [catO_some, preB_some]
                                clear hall hI HP4 HLE hq hal
                                generalize o4 ++ a ++ q = o5 at *
                                have hb5 := hbd; have hw5 := hwr; clear hbd hwr
                                generalize wr = w5 at *
                                go_wp2_with fail
                                go_end0
                                rw [HP5.out]
                                exact ⟨rfl, by simpa [preB] using hb5, hw5⟩
end Go.Proofs.YtnaamiecljinnaaGreat
