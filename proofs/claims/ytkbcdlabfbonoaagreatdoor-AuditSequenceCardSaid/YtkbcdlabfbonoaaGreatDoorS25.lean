/-
  Ld2 in one text.
-/
import Derived.Below
import Derived.BigFrame
import Derived.BigQuiet
import Derived.ChangeArms
import Derived.DataReads
import Derived.Deep.AppendLies
import Derived.Deep.AppendSrc
import Derived.Deep.Cut
import Derived.Deep.DeepCutAuto
import Derived.Deep.MidRow
import Derived.Deep.QuietTactic
import Derived.Deep.RegionHeld3
import Derived.Deep.RegionWith
import Derived.Defers
import Derived.Handy
import Derived.IntWalk
import Derived.KernelRfl
import Derived.Laws.Bits64b
import Derived.Laws.FloatBits
import Derived.Laws.Rows
import Derived.Laws.Unary
import Derived.Lib.AtoiAll
import Derived.Lib.Builder
import Derived.Lib.Bytealg
import Derived.Lib.Bytes
import Derived.Lib.ConvBytes
import Derived.Lib.FrozenHead2
import Derived.Lib.Hide
import Derived.Lib.IndexMore
import Derived.Lib.ItoaNum
import Derived.Lib.MinMax
import Derived.Lib.OthersKept
import Derived.Lib.ParseIntB
import Derived.Lib.UnsafeStr
import Derived.LoopTactic
import Derived.OneCell
import Derived.OwnWalk
import Derived.ProofKit
import Derived.Recover
import Derived.RegionTactic
import Derived.Scope
import Derived.Shelf.Abstract
import Derived.SizedLaws
import Derived.StillTailTactics
import Derived.Tactics
import Derived.Tactics2
import Derived.Test.YtkbcdlabfbonoaaGreatDoorChecked
import Derived.Test.YtkbcdlabfbonoaaGreatDoorEv3
import Derived.Test.YtkbcdlabfbonoaaGreatDoorShelf
import Derived.WalkKit
import Derived.WalkLawsBesides
import Derived.WalkSpells
import Derived.WideShapes
import Ieee.Arith
import Derived.Test.YtkbcdlabfbonoaaGreatDoorS00
import Derived.Test.YtkbcdlabfbonoaaGreatDoorS01
import Derived.Test.YtkbcdlabfbonoaaGreatDoorS02
import Derived.Test.YtkbcdlabfbonoaaGreatDoorS03
import Derived.Test.YtkbcdlabfbonoaaGreatDoorS06
import Derived.Test.YtkbcdlabfbonoaaGreatDoorS07
import Derived.Test.YtkbcdlabfbonoaaGreatDoorS08
import Derived.Test.YtkbcdlabfbonoaaGreatDoorS09
import Derived.Test.YtkbcdlabfbonoaaGreatDoorS10
import Derived.Test.YtkbcdlabfbonoaaGreatDoorS11
import Derived.Test.YtkbcdlabfbonoaaGreatDoorS12
import Derived.Test.YtkbcdlabfbonoaaGreatDoorS14
import Derived.Test.YtkbcdlabfbonoaaGreatDoorS21
namespace Go.Proofs.YtkbcdlabfbonoaaGreatDoor
open Go.RowKit
theorem StillG.loadG {P : Program} {ops : Array Oper} {w : World} {Q : Act → Prop} {a : Act} {o : Oper} {rest : List Oper} (hw : Region.wanted o (yielded ops a.tmps) = true) (ty : TypeId) (x : Operand) (ho : o.op = .load ty x) (p : Value) (hx : a.eval x = p) {v : Value}
    (hy : (Instr.loadAt ty p).run P w = .ok v w) (h : StillG P ops w Q rest (a.put o.dst v)) : StillG P ops w Q (o :: rest) a :=
  StillG.step fun K hK => by
    rw [if_pos hw]
    unfold Oper.still execOp
    simp only [ho, hx, Sem.run_bind, Sem.run_pure, Result.andThen_ok, hy, Oper.stillUpon_value]
    exact hK _ h
theorem range_below {B : Nat} {w w' : World} {g o : Nat} {l : List Value} (hb : Below B w w') (hg : g < B) (h : w.rangeAt g o l) : w'.rangeAt g o l := fun j v hv => (hb.cell (p := ⟨g, o + j, none⟩) hg).trans (h j v hv)
theorem range_sub {w : World} {g o k : Nat} {l m : List Value} (h : w.rangeAt g o l) (hm : l.drop k = m) : w.rangeAt g (o + k) m := fun j v hv => by
  rw [show o + k + j = o + (k + j) by omega]
  exact h (k + j) v (by rw [← List.getElem?_drop, hm]; exact hv)
set_option maxRecDepth 100000 in
set_option maxHeartbeats 4000000 in
theorem rSequence_any (d n : Nat) (le : Rel) (cs : Array Value) (hcv : LeV n le cs) (v : Value) (l : List AudT) (level : Int) (w : World) (hv : SlG (audK d) (fun _ => True) w v l) (hl : l.length ≤ 1000) :
    Calls Tryz.prog 10 #[.agg cs, v, .int .i64 level] w fun e w' => ∃ v', e = .returned v' ∧ SlG (valK d) (fun _ => True) w' v' ((l.filter fun a => leqB n le a.lv level).map (·.v)) ∧ Below w.heap.size w w' := by
  have hg := heap_alloc_new w (.cells cs 33)
  have f0 := (Below.refl w.heap.size w).alloc (Nat.le_refl _) (.cells cs 33)
  have hsz := hcv.1
  have HV := Lib.hid (fun w' (k : Below w.heap.size w w') => SlG.below (S := fun g => g < w.heap.size) k (hv.kept (Nat.le_refl _) (fun g _ hl => ⟨hl, rfl⟩)))
  obtain ⟨pa, pc0, rfl, _, _⟩ := hv
  have HL := Lib.hid (fun x y w => rLeq_any n le cs hcv x y w)
  have hz : (w.alloc (.cells cs 33)).heap.size = w.heap.size + 1 := by simp
  generalize hW1 : w.alloc (.cells cs 33) = W1 at *
  have HW1 := Lib.hid hW1
  clear hW1 hcv hz
  go_enter Tryz.func10, Tryz.ntmps10
  go_upto_region 1 with (fail)
  rw [HW1.out]
  go_wp2_with fail
  go_loopw [7, 8] (fun rv iv wr => ∃ i : Nat, iv = .int .i64 (i : Int) ∧ i ≤ l.length ∧ Hid (RowG (valK d) (fun _ => True) w.heap.size 44 (((l.take i).filter fun a => leqB n le a.lv level).map (·.v)) rv wr ∧ Below w.heap.size w wr ∧ wr.heap[w.heap.size]? = some (.cells cs 33 (0, 0)))) (fun _ iv _ => l.length - (intOf iv).toNat)
  case atStart => exact ⟨0, rfl, Nat.zero_le _, Lib.hid ⟨by rw [List.take_zero]; exact RowG.nil _ _ _ _ _, f0, hg⟩⟩
  case round =>
    clear f0 hg
    obtain ⟨i, rfl, hi, hq⟩ := hrel
    by_cases hil : i < l.length
    · have t0 : decide ((i : Int) < (l.length : Int)) = true := by simp; omega
      have i0 : (0 : Int) ≤ (i : Int) := by omega
      obtain ⟨x, hx⟩ : ∃ x, l[i]? = some x := ⟨_, List.getElem?_eq_getElem hil⟩
      obtain ⟨g, off, rfl, hgo, hgl, ds, hds, hr⟩ := (HV.out wr hq.out.2.1).item hx
      obtain ⟨pp, pc, p, cap, rfl, hvx⟩ := hds
      have htk := filt_snoc (p := fun a => leqB n le a.lv level) (f := fun a => a.v) hx
      have hlt : (((l.take i).filter fun a => leqB n le a.lv level).map fun a => a.v).length ≤ 1000000 := by
        rw [List.length_map]
        have := List.length_filter_le (fun a : AudT => leqB n le a.lv level) (l.take i)
        rw [List.length_take] at this; omega
      generalize hR : ((l.take i).filter fun a => leqB n le a.lv level).map (fun a => a.v) = R at *
      clear hR
      have hlv : wr.drew.cell? ⟨g, off + i * 11 + 4, none⟩ = some (.int .i64 x.lv) := hr 4 _ rfl
      have hgl2 : g < wr.drew.heap.size := hgl
      have hgd : wr.drew.heap[w.heap.size]? = some (.cells cs 33 (0, 0)) := hq.out.2.2
      have hLd : ∀ z : World, (z.heap[w.heap.size]? = some (.cells cs 33 (0, 0)) ∧ z.cell? ⟨g, off + i * 11 + 4, none⟩ = some (.int .i64 x.lv)) → (Instr.loadAt 33 (.pointer (some ⟨w.heap.size, 0, none⟩))).run Tryz.prog z = .ok (.agg cs) z := fun z hz => by
        simp only [Instr.loadAt, Instr.sureAddr, Sem.run_bind, Sem.run_pure, Result.andThen_ok]
        exact run_loadRow (P := Tryz.prog) (t := 33) (by kernel_rfl) (n := 65) (by kernel_rfl) hz.1 hsz
      have HLx := Lib.hid (HL.out x.lv level wr.drew)
      have HQ := Lib.hid hq.out
      have HR := Lib.hid hr; have HVX := Lib.hid hvx
      clear hq hr hvx
      go_upto_region 5 with (fail)
      refine wp_still_tailG 7 (by kernel_rfl) (by kernel_rfl) ?_
      simp only [List.take_succ_cons, List.take_zero, List.drop_succ_cons, List.drop_zero]
      refine StillG.loadG (by rfl) _ _ rfl _ rfl (hLd _ ⟨hgd, hlv⟩) ?_
      simp only [Act.put, List.setIfInBounds_toArray, List.set_cons_zero, List.set_cons_succ]
      iterate 6 (refine StillG.step (fun K hK => ?_); go_simp; refine hK _ ?_; clear hK K)
      refine StillG.nil ?_
      go_wp2_with fail
      refine (HLx.out).mono ?_; rintro e w5 ⟨rfl, hb5⟩
      replace hb5 := undrew hb5
      have hrow := HQ.out.1.below hb5
      have hbw := HQ.out.2.1.trans (hb5.mono HQ.out.2.1.size)
      have hgc := (hb5.block _ (lt_of_block HQ.out.2.2)).trans HQ.out.2.2
      have hwl := lt_of_block hgc
      clear hLd hlv hgd
      cases hp : leqB n le x.lv level with
      | false =>
        rw [hp, if_neg (by simp), List.append_nil] at htk
        have HQ := Lib.hid (show RowG (valK d) (fun _ => True) w.heap.size 44 (((l.take (i + 1)).filter fun a => leqB n le a.lv level).map fun a => a.v) u7 w5 ∧ Below w.heap.size w w5 ∧ w5.heap[w.heap.size]? = some (.cells cs 33 (0, 0)) from ⟨by rw [htk]; exact hrow, hbw, hgc⟩)
        clear hrow hbw
        go_wp2_with fail
        go_roundw
        case rel => exact ⟨i + 1, by go_num, by omega, HQ⟩
        case measure => simp [intOf]; omega
      | true =>
        rw [hp, if_pos rfl] at htk
        have hr6 := range_sub (k := 5) (m := [.int .i64 x.v.kind, .int .i64 x.v.num, .float .f64 x.v.flt, .string ⟨x.v.str.toArray⟩, .slice pp x.v.names.length pc, .slice p x.v.items.length cap]) (range_below hb5 hgl HR.out) rfl
        have hA6 : Below w5.heap.size w5 (w5.alloc (.cells #[.int .i64 x.v.kind, .int .i64 x.v.num, .float .f64 x.v.flt, .string ⟨x.v.str.toArray⟩, .slice pp x.v.names.length pc, .slice p x.v.items.length cap] 44)) := (Below.refl _ _).alloc (Nat.le_refl _) _
        have hg6 := heap_alloc_new w5 (.cells #[.int .i64 x.v.kind, .int .i64 x.v.num, .float .f64 x.v.flt, .string ⟨x.v.str.toArray⟩, .slice pp x.v.names.length pc, .slice p x.v.items.length cap] 44)
        have hrow6 := hrow.below hA6
        have hbw6 := hbw.trans (hA6.mono hbw.size)
        have hgc6 := (hA6.block _ hwl).trans hgc
        have hown : ∀ k, u7.ownBlock = some k → w.heap.size < k := fun k hk => by obtain ⟨xs, h1, _⟩ := hrow; exact (own_ltG h1 hk).1
        have hv6 := HVX.out.kept (T := OffG (fun _ => True) u7) (w' := w5.alloc (.cells #[.int .i64 x.v.kind, .int .i64 x.v.num, .float .f64 x.v.flt, .string ⟨x.v.str.toArray⟩, .slice pp x.v.names.length pc, .slice p x.v.items.length cap] 44)) (Nat.le_trans hb5.size hA6.size) (fun g (h1 : g < w.heap.size) h2 => ⟨⟨trivial, fun e => by have := hown g e; omega⟩, (hA6.block g (Nat.lt_of_lt_of_le h2 hb5.size)).trans (hb5.block g h2)⟩)
        obtain ⟨ii, hi0, hz0, hz1, hz2⟩ := Go.info_parts zero_VTb
        have HII := Lib.hid hi0; have HZ0 := Lib.hid hz0; have HZ1 := Lib.hid hz1; have HZ2' := Lib.hid hz2
        clear hi0 hz0 hz1 hz2 hrow hA6 hbw hgc hb5
        go_wp2_with (first | (refine wpList_loadR rfl rfl rfl (by kernel_rfl) (n := 6) (by kernel_rfl) hr6 rfl ?_) | (at_builtin; refine wpList_append_item (I := valK d) rfl _ _ 36 (by rfl) w.heap.size 44 ii _ 88 Tryz.underlying36 HII.out HZ0.out HZ1.out HZ2'.out rfl (by omega) (by omega) u7 R rfl hrow6 w5.heap.size _ x.v _ _ _ rfl hg6 (List.all_eq_true.1 (by kernel_rfl)) hv6 hlt (by simp; omega) ?_; intro g7 c7 w7 hrow7 hgr7 hat7 hlt7))
        have HQ := Lib.hid (show RowG (valK d) (fun _ => True) w.heap.size 44 (((l.take (i + 1)).filter fun a => leqB n le a.lv level).map fun a => a.v) (.slice (some ⟨g7, 0, none⟩) (R.length + 1) c7) w7 ∧ Below w.heap.size w w7 ∧ w7.heap[w.heap.size]? = some (.cells cs 33 (0, 0)) from ⟨by rw [htk]; exact hrow7, below_grow hbw6 (Nat.le_refl _) hgr7 (fun k hk => Nat.le_of_lt (hown k hk)), (hgr7.block _ (lt_of_block hgc6) (fun e => by have := hown _ e.symm; omega)).trans hgc6⟩)
        go_roundw
        case rel => exact ⟨i + 1, by go_num, by omega, HQ⟩
        case measure => simp [intOf]; omega
    · have t0 : decide ((i : Int) < (l.length : Int)) = false := by simp; omega
      obtain rfl : i = l.length := by omega
      have hq2 := hq.out
      rw [List.take_length] at hq2
      obtain ⟨hrow, hbw, _⟩ := hq2
      have HD := Lib.hid (hrow.done (by
        rw [List.length_map]
        have := List.length_filter_le (fun a : AudT => leqB n le a.lv level) l
        omega) (fun _ _ => trivial))
      clear hq hrow
      go_wp2_with fail
      go_ret
      exact ⟨_, rfl, HD.out, hbw⟩
end Go.Proofs.YtkbcdlabfbonoaaGreatDoor
