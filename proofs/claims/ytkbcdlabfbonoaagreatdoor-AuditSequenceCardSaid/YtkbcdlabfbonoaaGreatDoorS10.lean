/-
  Lc2 in one text.
-/
import Derived.Below
import Derived.BigFrame
import Derived.BigQuiet
import Derived.ChangeArms
import Derived.DataReads
import Derived.Deep.AppendLies
import Derived.Deep.AppendSrc
import Derived.Deep.Cut
import Derived.Deep.DeepCutAuto
import Derived.Deep.MidRow
import Derived.Deep.QuietTactic
import Derived.Deep.RegionHeld3
import Derived.Deep.RegionWith
import Derived.Defers
import Derived.Handy
import Derived.IntWalk
import Derived.Laws.Bits64b
import Derived.Laws.FloatBits
import Derived.Laws.Rows
import Derived.Lib.AtoiAll
import Derived.Lib.Builder
import Derived.Lib.Bytealg
import Derived.Lib.Bytes
import Derived.Lib.ConvBytes
import Derived.Lib.FrozenHead2
import Derived.Lib.Hide
import Derived.Lib.IndexMore
import Derived.Lib.ItoaNum
import Derived.Lib.MinMax
import Derived.Lib.OthersKept
import Derived.Lib.ParseIntB
import Derived.Lib.UnsafeStr
import Derived.LoopTactic
import Derived.OneCell
import Derived.OwnWalk
import Derived.Recover
import Derived.RegionTactic
import Derived.Shelf.Abstract
import Derived.SizedLaws
import Derived.StillTailTactics
import Derived.Tactics
import Derived.Tactics2
import Derived.Test.YtkbcdlabfbonoaaGreatDoorChecked
import Derived.Test.YtkbcdlabfbonoaaGreatDoorEv3
import Derived.Test.YtkbcdlabfbonoaaGreatDoorShelf
import Derived.WalkKit
import Derived.WalkLawsBesides
import Derived.WalkSpells
import Derived.WideShapes
import Ieee.Arith
import Derived.Test.YtkbcdlabfbonoaaGreatDoorS00
import Derived.Test.YtkbcdlabfbonoaaGreatDoorS01
import Derived.Test.YtkbcdlabfbonoaaGreatDoorS02
import Derived.Test.YtkbcdlabfbonoaaGreatDoorS03
import Derived.Test.YtkbcdlabfbonoaaGreatDoorS05
import Derived.Test.YtkbcdlabfbonoaaGreatDoorS06
import Derived.Test.YtkbcdlabfbonoaaGreatDoorS07
import Derived.Test.YtkbcdlabfbonoaaGreatDoorS08
namespace Go.Proofs.YtkbcdlabfbonoaaGreatDoor
open Go.RowKit
section
variable {P : Program} {ops : Array Oper} {rest : List Oper} {o : Oper} {a : Act} {Q : Exit → Act → World → Prop} {w w' : World} {v : Value} {t : TypeId} {b n : Nat} {T : TypeId} {cs : Array Value} {z : Nat × Nat} {ad : Operand}
/-- one cell out of a row -/
theorem wpList_load1 {off : Nat} (ho : o.op = .load t ad) (hw : Region.wanted o (yielded ops a.tmps) = true) (ea : a.eval ad = .pointer (some ⟨b, off, none⟩)) (ha : Ev.isAgg P t = some false) (hb : w.heap[b]? = some (.cells cs T z)) (hv : cs[off]? = some v)
    (h : wpList P ops Q rest (a.put o.dst v) w) : wpList P ops Q (o :: rest) a w := by
  have he : (execOp a.eval o).run P w = .ok (.value v) w := by
    unfold execOp
    simp only [ho, ea, Instr.loadAt, Instr.sureAddr, Sem.run_bind, Sem.run_pure, Result.andThen_ok, loadVar, Ev.run_isAgg ha, Bool.false_eq_true, if_false, load, Sem.run, Ev.cell_row hb, hv]
  show (if _ then _ else _)
  rw [if_pos hw]
  refine .inl ?_
  unfold Oper.wp
  rw [he]
  exact h
end
theorem ValAt.size6 {w : World} {d : Nat} {v : VT} {cs : Array Value} (h : ValAt w d v cs) : cs.size = 6 := by
  cases d with
  | zero => exact h.elim
  | succ d => obtain ⟨pn, pi, rfl, _⟩ := h; rfl
theorem below_grow {B : Nat} {a w w' : World} (h : Below B a w) (hB : B ≤ a.heap.size) {o : Option Nat} (k : w.grownBy w' o) (ho : ∀ b, o = some b → B ≤ b) : Below B a w' :=
  h.trans ⟨k.os, k.tape, k.output, k.size, fun g hg => k.block g (Nat.lt_of_lt_of_le hg (Nat.le_trans hB h.size)) (fun e => by have := ho g e.symm; omega)⟩
theorem StrsIn.form {S : Nat → Prop} {w : World} {l : List (List UInt8)} {v : Value} (h : StrsIn S w l v) : ∃ p n c, v = .slice p n c := by
  obtain ⟨_, _, ⟨_, p, c, rfl⟩ | ⟨g, off, cap, rfl, _⟩⟩ := h
  · exact ⟨_, _, _, rfl⟩
  · exact ⟨_, _, _, rfl⟩
theorem ValIn.form6 {S : Nat → Prop} {w : World} {d : Nat} {v : VT} {cs : Array Value} (h : ValIn S w d v cs) : ∃ f0 f1 f2 f3 f4 f5 f6 f7 f8 f9, cs = #[.int .i64 f0, .int .i64 f1, .float .f64 f2, .string f3, .slice f4 f5 f6, .slice f7 f8 f9] := by
  cases d with
  | zero => exact h.elim
  | succ d =>
    obtain ⟨pn, pi, rfl, _, _, _, _, hn, _, hi⟩ := h
    obtain ⟨p, n, c, rfl⟩ := hn.form
    rcases hi with ⟨_, p', c', rfl⟩ | ⟨g, off, cap, rfl, _⟩
    · exact ⟨_, _, _, _, _, _, _, _, _, _, rfl⟩
    · exact ⟨_, _, _, _, _, _, _, _, _, _, rfl⟩
set_option maxRecDepth 100000 in
set_option maxHeartbeats 4000000 in
theorem vCanon_any : ∀ (d : Nat) (v : VT) (cs : Array Value) (w : World), ValAt w d v cs → fitV v → Calls Tryz.prog 24 #[.agg cs] w fun e w' => ∃ cs', e = .returned (.agg cs') ∧ ValIn (fun g => w.heap.size ≤ g) w' d (canV v) cs' ∧ Below w.heap.size w w'
  | 0, _, _, _, h, _ => h.elim
  | d + 1, v, cs, w, h, hfit => by
    have HC := Lib.hid (fun (x : VT) (ds : Array Value) (w : World) (h1 : ValAt w d x ds) (h2 : fitV x) => vCanon_any d x ds w h1 h2)
    obtain ⟨pn, pi, rfl, hk, hn, hf, hs, hns, hil, hit⟩ := h
    obtain ⟨pa, pc, rfl⟩ : ∃ pa pc, pi = .slice pa v.items.length pc := by
      rcases hit with ⟨e, p, c, rfl⟩ | ⟨g, off, cap, rfl, _⟩
      · exact ⟨p, c, by rw [e]; rfl⟩
      · exact ⟨_, _, rfl⟩
    have hfn : v.names.length * 16 ≤ 140737488355328 ∧ v.items.length ≤ 1000000 ∧ fitL v.items := by
      obtain ⟨k, n, f, s, ns, its⟩ := v
      rw [fitV] at hfit; exact hfit
    clear hfit
    have g0 := heap_alloc_new w (.cells #[.int .i64 v.kind, .int .i64 v.num, .float .f64 v.flt, .string ⟨v.str.toArray⟩, pn, .slice pa v.items.length pc] 44)
    have f0 := (Below.refl w.heap.size w).alloc (Nat.le_refl _) (.cells #[.int .i64 v.kind, .int .i64 v.num, .float .f64 v.flt, .string ⟨v.str.toArray⟩, pn, .slice pa v.items.length pc] 44)
    have hz : (w.alloc (.cells #[.int .i64 v.kind, .int .i64 v.num, .float .f64 v.flt, .string ⟨v.str.toArray⟩, pn, .slice pa v.items.length pc] 44)).heap.size = w.heap.size + 1 := by simp
    generalize hW1 : w.alloc (.cells #[.int .i64 v.kind, .int .i64 v.num, .float .f64 v.flt, .string ⟨v.str.toArray⟩, pn, .slice pa v.items.length pc] 44) = W1 at *
    have f1 := (Below.refl W1.heap.size W1).alloc (Nat.le_refl _) (.cells #[.int .i64 0, .int .i64 0, .float .f64 0, .string ⟨#[]⟩, .slice none 0 0, .slice none 0 0] 44)
    have g1 := heap_alloc_new W1 (.cells #[.int .i64 0, .int .i64 0, .float .f64 0, .string ⟨#[]⟩, .slice none 0 0, .slice none 0 0] 44)
    have hz2 : (W1.alloc (.cells #[.int .i64 0, .int .i64 0, .float .f64 0, .string ⟨#[]⟩, .slice none 0 0, .slice none 0 0] 44)).heap.size = w.heap.size + 2 := by simp [hz]
    generalize hW2 : W1.alloc (.cells #[.int .i64 0, .int .i64 0, .float .f64 0, .string ⟨#[]⟩, .slice none 0 0, .slice none 0 0] 44) = W2 at *
    have g0 := (f1.block _ (lt_of_block g0)).trans g0
    have b0 : Below w.heap.size w W2 := f0.trans (f1.mono f0.size)
    rw [hz] at g1
    have HW1 := Lib.hid hW1; have HW2 := Lib.hid hW2; have HZ := Lib.hid hz; have HZ2 := Lib.hid hz2
    clear hW1 hW2 f0 f1 hz hz2
    have HCn := Lib.hid (fun w => canon_any v.flt w)
    have HNs := Lib.hid (fun w' (k : Below w.heap.size w w') => clone_strs v.names pn w' (hns.kept k) hfn.1)
    have HIt := Lib.hid (fun w' (k : Below w.heap.size w w') i x (hx : v.items[i]? = some x) => (show ∃ g off ds, pa = some ⟨g, off, none⟩ ∧ ValAt w' d x ds ∧ w'.rangeAt g (off + i * 6) ds.toList from by
      rcases hit with ⟨e, _⟩ | ⟨g, off, cap, a1, a2, a3⟩
      · rw [e] at hx; simp at hx
      · have hi := (List.getElem?_eq_some_iff.1 hx).1
        obtain ⟨ds, c1, c2⟩ := a3 i hi
        rw [show v.items.getD i noVT = x by rw [List.getD, hx]; rfl] at c1
        injection a1 with a1 _ _
        refine ⟨g, off, ds, a1, c1.kept k, fun j u hu => ?_⟩
        have hj : j < 6 := by
          have := (List.getElem?_eq_some_iff.1 hu).1
          rw [Array.length_toList, c1.size6] at this; exact this
        rw [(k.cell (p := ⟨g, off + i * 6 + j, none⟩) a2), c2 j hj]; simpa using hu))
    clear hit hns
    have hil0 := hil
    go_enter Tryz.func24, Tryz.ntmps24
    go_upto_region 1 with (fail)
    rw [HW1.out, HW2.out]
    try rw [HZ.out]
    go_wp2_with (refine wpList_load1 rfl rfl rfl (by kernel_rfl) g0 rfl ?_)
    refine (HCn.out _).mono ?_; rintro e w3 ⟨rfl, rfl⟩
    go_upto_region 2 with (refine wpList_storeM (l := #[.float .f64 (canon v.flt)]) rfl rfl rfl rfl rfl (n := 1) (by kernel_rfl) g0 rfl (by simp) (by simp [Value.oneCell']) (cs' := #[.int .i64 v.kind, .int .i64 v.num, .float .f64 (canon v.flt), .string ⟨v.str.toArray⟩, pn, .slice pa v.items.length pc]) rfl ?_; intro wn hgn FFn)
    have b0 := b0.trans (FFn.below (Nat.le_of_lt (lt_of_block g0)) (by simp))
    have g1 := FFn.at g1 (by simp)
    replace g0 := hgn
    have hw2 : w.heap.size + 2 ≤ wn.heap.size := by have := FFn.size; have := HZ2.out; omega
    clear hgn FFn
    have HN3 := Lib.hid (HNs.out _ b0)
    go_wp2_with (refine wpList_load1 rfl rfl rfl (by kernel_rfl) g0 rfl ?_)
    refine (HN3.out).mono ?_; rintro e w4 ⟨pm, rfl, hpm, hb4⟩
    have g0 := (hb4.block _ (lt_of_block g0)).trans g0
    have g1 := (hb4.block _ (lt_of_block g1)).trans g1
    obtain ⟨qm, nm, cm, rfl⟩ := hpm.form
    have hs4 := lt_of_block g1
    go_upto_region 4 with (refine wpList_storeM (l := #[.slice qm nm cm]) rfl rfl rfl rfl rfl (n := 1) (by kernel_rfl) g0 rfl (by simp) (by simp [Value.oneCell']) (cs' := #[.int .i64 v.kind, .int .i64 v.num, .float .f64 (canon v.flt), .string ⟨v.str.toArray⟩, .slice qm nm cm, .slice pa v.items.length pc]) rfl ?_; intro wn hgn FFn)
    have hb := (b0.trans (hb4.mono b0.size)).trans (FFn.below (Nat.le_of_lt (lt_of_block g0)) (by simp))
    have g1 := FFn.at g1 (by simp)
    have hpm := hpm.kept (T := fun g => w.heap.size + 2 ≤ g) FFn.size (fun g h1 h2 => ⟨Nat.le_trans hw2 h1, FFn.block g h2 (by have := Nat.le_trans hw2 h1; simp; omega)⟩)
    replace g0 := hgn
    have hw3 : w.heap.size + 2 ≤ wn.heap.size := by have := FFn.size; have := hb4.size; omega
    clear hgn FFn hb4 b0 HN3 HNs HCn
    obtain ⟨P, hP⟩ : ∃ P, P + 1 = wn.heap.size := ⟨wn.heap.size - 1, by have := lt_of_block g0; omega⟩
    have HP := Lib.hid hP; clear hP
    have hNl : v.items.length ≤ 1000000 := hfn.2.1
    have HF := Lib.hid hfn.2.2
    clear hfn
    go_wp2_with (refine wpList_load1 rfl rfl rfl (by kernel_rfl) g0 rfl ?_)
    go_loopw [3, 17] (fun rv iv wr => ∃ i : Nat, iv = .int .i64 (i : Int) ∧ i ≤ v.items.length ∧ Hid (RowG (valK d) (fun g => P < g) P 44 (canL (v.items.take i)) rv wr ∧ Below wn.heap.size wn wr)) (fun _ iv _ => v.items.length - (intOf iv).toNat)
    case atStart => exact ⟨0, rfl, Nat.zero_le _, Lib.hid ⟨by rw [List.take_zero, canL]; exact RowG.nil _ _ _ _ _, Below.refl _ _⟩⟩
    case round =>
      obtain ⟨i, rfl, hi, hq⟩ := hrel
      by_cases hil : i < v.items.length
      · have t0 : decide ((i : Int) < (v.items.length : Int)) = true := by simp; omega
        have i0 : (0 : Int) ≤ (i : Int) := by omega
        obtain ⟨x, hx⟩ : ∃ x, v.items[i]? = some x := ⟨_, List.getElem?_eq_getElem hil⟩
        have hown : ∀ k, u3.ownBlock = some k → k < wr.heap.size := fun k hk => by obtain ⟨xs, h1, _⟩ := hq.out.1; exact (own_ltG h1 hk).2
        have hbr := hb.trans (hq.out.2.mono hb.size)
        obtain ⟨g, off, ds, rfl, hvx, hr⟩ := HIt.out wr hbr i x hx
        obtain ⟨pp9, pc9, p9, cap9, rfl⟩ := hvx.sixS
        have hfx := fitL_at HF.out hx
        have htk : canL (v.items.take (i + 1)) = canL (v.items.take i) ++ [canV x] := by rw [canL_map, canL_map, List.take_add_one, hx]; simp
        have hlt : (canL (v.items.take i)).length ≤ 1000000 := by rw [canL_length, List.length_take]; omega
        go_upto_region 7 with (first | (refine wpList_loadR rfl rfl rfl (by kernel_rfl) (n := 6) (by kernel_rfl) hr rfl ?_) | (refine wpList_rown rfl rfl rfl rfl rfl (n := 6) (by kernel_rfl) (heap_alloc_new _ _) rfl rfl (List.all_eq_true.1 (by kernel_rfl)) ?_; intro wx hgx FFx))
        have hAx : Below wr.heap.size wr wx := (((Fr.refl [wr.heap.size] wr).alloc _).trans FFx).below (Nat.le_refl _) (by simp)
        have HCx := Lib.hid (HC.out x _ wx (hvx.kept hAx) hfx)
        have hrow := hq.out.1.below hAx
        have hbw := hq.out.2.trans (hAx.mono hq.out.2.size)
        have hxs := hAx.size
        have hws := hq.out.2.size
        clear hr hvx hq FFx hAx
        go_wp2_with (refine wpList_loadG rfl rfl rfl (by kernel_rfl) (n := 6) (by kernel_rfl) hgx rfl ?_)
        refine (HCx.out).mono ?_; rintro e w5 ⟨cs5, rfl, hv5, hb5⟩
        replace hrow := hrow.below hb5
        replace hbw := hbw.trans (hb5.mono hbw.size)
        have hs5 := hbw.size
        have hb5s := hb5.size
        obtain ⟨f0, f1, f2, f3, f4, f5, f6, f7, f8, f9, rfl⟩ := hv5.form6
        have hA6 : Below w5.heap.size w5 (w5.alloc (.cells #[.int .i64 f0, .int .i64 f1, .float .f64 f2, .string f3, .slice f4 f5 f6, .slice f7 f8 f9] 44)) := (Below.refl _ _).alloc (Nat.le_refl _) _
        have hg6 := heap_alloc_new w5 (.cells #[.int .i64 f0, .int .i64 f1, .float .f64 f2, .string f3, .slice f4 f5 f6, .slice f7 f8 f9] 44)
        have hrow6 := hrow.below hA6
        have hbw6 := hbw.trans (hA6.mono hbw.size)
        have hs6 := hA6.size
        have hoff : ∀ g, wx.heap.size ≤ g → OffG (fun g => P < g) u3 g := fun g h1 => ⟨by have := HP.out; omega, fun e => by have := hown g e; omega⟩
        have hv6 := hv5.kept (T := OffG (fun g => P < g) u3) (w' := w5.alloc (.cells #[.int .i64 f0, .int .i64 f1, .float .f64 f2, .string f3, .slice f4 f5 f6, .slice f7 f8 f9] 44)) hA6.size (fun g h1 h2 => ⟨hoff g h1, hA6.block g h2⟩)
        obtain ⟨ii, hi0, hz0, hz1, hz2⟩ := Go.info_parts zero_VTb
        have HII := Lib.hid hi0; have HZ0 := Lib.hid hz0; have HZ1 := Lib.hid hz1; have HZ2' := Lib.hid hz2
        clear hi0 hz0 hz1 hz2 hv5 hoff hrow hA6 hbw
        go_wp2_with (at_builtin; refine wpList_append_item (I := valK d) rfl _ _ 36 (by rfl) P 44 ii _ 88 Tryz.underlying36 HII.out HZ0.out HZ1.out HZ2'.out rfl (by omega) (by omega) u3 (canL (v.items.take i)) rfl hrow6 w5.heap.size _ (canV x) _ _ _ rfl hg6 (List.all_eq_true.1 (by kernel_rfl)) hv6 hlt (by have := HP.out; omega) ?_; intro g7 c7 w7 hrow7 hgr7 hat7 hlt7)
        have HQ := Lib.hid (show RowG (valK d) (fun g => P < g) P 44 (canL (v.items.take (i + 1))) (.slice (some ⟨g7, 0, none⟩) ((canL (v.items.take i)).length + 1) c7) w7 ∧ Below wn.heap.size wn w7 from ⟨by rw [htk]; exact hrow7, below_grow hbw6 (Nat.le_refl _) hgr7 (fun k hk => by
          obtain ⟨xs, h1, _⟩ := hrow6
          have := (own_ltG h1 hk).1
          have := HP.out
          omega)⟩)
        go_roundw
        case rel => exact ⟨i + 1, by go_num, by omega, HQ⟩
        case measure => simp [intOf]; omega
      · have t0 : decide ((i : Int) < (v.items.length : Int)) = false := by simp; omega
        obtain rfl : i = v.items.length := by omega
        have hq2 := hq.out
        rw [List.take_length] at hq2
        obtain ⟨hrow, hbw⟩ := hq2
        have hdone := hrow.done (by rw [canL_length]; exact hNl) (fun g h => h)
        obtain ⟨qa, qc, rfl⟩ : ∃ qa qc, u3 = .slice qa (canL v.items).length qc := by
          obtain ⟨q, c, e, _⟩ := hdone
          exact ⟨q, c, e⟩
        have g0 := (hbw.block _ (lt_of_block g0)).trans g0
        have g1 := (hbw.block _ (lt_of_block g1)).trans g1
        have hpm := hpm.kept (T := fun g => w.heap.size + 2 ≤ g) hbw.size (fun g h1 h2 => ⟨h1, hbw.block g h2⟩)
        have hb := hb.trans (hbw.mono hb.size)
        have hPw : w.heap.size + 2 ≤ P + 1 := by have := HP.out; omega
        clear hq hrow hbw
        go_upto_region 10 with (refine wpList_storeM (l := #[.slice qa (canL v.items).length qc]) rfl rfl rfl rfl rfl (n := 1) (by kernel_rfl) g0 rfl (by simp) (by simp [Value.oneCell']) (cs' := #[.int .i64 v.kind, .int .i64 v.num, .float .f64 (canon v.flt), .string ⟨v.str.toArray⟩, .slice qm nm cm, .slice qa (canL v.items).length qc]) rfl ?_; intro wn hgn FFn)
        have hdone := hdone.kept (T := fun g => w.heap.size + 2 ≤ g) FFn.size (fun g (h1 : P < g) h2 => ⟨by omega, FFn.block g h2 (by simp; omega)⟩)
        have hpm := hpm.kept (T := fun g => w.heap.size + 2 ≤ g) FFn.size (fun g (h1 : w.heap.size + 2 ≤ g) h2 => ⟨h1, FFn.block g h2 (by simp; omega)⟩)
        have hb := hb.trans (FFn.below (Nat.le_of_lt (lt_of_block g0)) (by simp))
        have g1 := FFn.at g1 (by simp)
        replace g0 := hgn
        clear hgn FFn
        go_wp2_with (first | (refine wpList_loadG rfl rfl rfl (by kernel_rfl) (n := 6) (by kernel_rfl) g0 rfl ?_) | (refine wpList_rown rfl rfl rfl rfl rfl (n := 6) (by kernel_rfl) g1 rfl rfl (List.all_eq_true.1 (by kernel_rfl)) ?_; intro wz hgz FFz))
        refine bodyPost_ret (v := .agg #[.int .i64 v.kind, .int .i64 v.num, .float .f64 (canon v.flt), .string ⟨v.str.toArray⟩, .slice qm nm cm, .slice qa (canL v.items).length qc]) (results_cell_row rfl _ _ (w.heap.size + 1) 44 _ (0, 0) _ rfl hgz Tryz.underlying44 rfl (by kernel_rfl)) rfl ?_
        refine ⟨_, rfl, ?_, hb.trans (FFz.below (by have := lt_of_block g0; omega) (by simp))⟩
        have hdz := items_of (hdone.kept (T := fun g => w.heap.size ≤ g) FFz.size (fun g (h1 : w.heap.size + 2 ≤ g) h2 => ⟨by omega, FFz.block g h2 (by simp; omega)⟩))
        have hpz := hpm.kept (T := fun g => w.heap.size ≤ g) FFz.size (fun g (h1 : w.heap.size + 2 ≤ g) h2 => ⟨by omega, FFz.block g h2 (by simp; omega)⟩)
        have hcl := canL_length v.items
        obtain ⟨vk, vn, vf, vs, vns, vits⟩ := v
        rw [canV]
        exact ⟨_, _, rfl, hk, hn, canon_F64 hf, hs, hpz, by show (canL vits).length ≤ _; rw [canL_length]; exact hil0, hdz⟩
end Go.Proofs.YtkbcdlabfbonoaaGreatDoor
