/-
  The walk of lex.All.
-/
import Derived.Test.YtkcbkfflabkcgaaDoorKc
import Derived.Test.YtkcbkfflabkcgaaDoorKd
import Derived.Deep.Cut
import Derived.Deep.Onto
namespace Go.Proofs.YtkcbkfflabkcgaaDoor
open Go.RowKit

/-- the cells of a list of tokens -/
def rowsOf (l : List Tk) : List Value := l.flatMap fun k => (tokCells k).toList
theorem rowsOf_snoc (l : List Tk) (k : Tk) : rowsOf (l ++ [k]) = rowsOf l ++ (tokCells k).toList := by simp [rowsOf]
theorem rowsOf_length (l : List Tk) : (rowsOf l).length = l.length * 6 := by
  induction l with
  | nil => rfl
  | cons k l ih =>
    show ((tokCells k).toList ++ rowsOf l).length = _
    rw [List.length_append, ih]
    show 6 + l.length * 6 = (l.length + 1) * 6
    omega
/-- a list of tokens in memory of the call's own -/
def Toks (B : Nat) (v : Value) (l : List Tk) (w : World) : Prop := w.ownsRow B 30 6 v l.length (rowsOf l)
theorem Toks.apart {B b : Nat} {v : Value} {l : List Tk} {s : ByteArray} {a : Nat} {w : World} (h : Toks B v l w) (hx : LexAt b s a w) : v.ownBlock ≠ some b := by
  rcases h.2 with ⟨rfl, _⟩ | ⟨g, cap, cur, rfl, _, hg, _⟩
  · intro e; cases e
  · intro e
    simp only [Value.ownBlock, Option.some.injEq] at e
    subst e
    rw [hx] at hg
    simp only [Option.some.injEq, Obj.cells.injEq] at hg
    exact absurd hg.2.1 (by decide)
theorem Toks.kept {B b : Nat} {v : Value} {l : List Tk} {s : ByteArray} {a : Nat} {w w' : World} (h : Toks B v l w) (hx : LexAt b s a w) (hf : Fr [b] w w') : Toks B v l w' :=
  World.ownsRow.kept (row := some b) h ⟨hf.os, hf.tape, hf.output, hf.size, fun k hk hn => hf.block k hk (by simp at hn ⊢; omega)⟩ (.inr (h.apart hx))
theorem news_tok {k : Tk} {w : World} {g : Nat} (h : TokAt g k w) : ∀ j u, (tokCells k).toList[j]? = some u → w.cell? ((⟨g, 0, none⟩ : Addr).add j) = some u := by
  intro j u hj
  have := h.cell j
  rw [Array.getElem?_toList] at hj
  rw [← hj, ← this]
  congr 1
  unfold Addr.add
  split <;> simp_all
theorem tok_one (k : Tk) : ∀ u ∈ (tokCells k).toList, u.oneCell' = true := by
  intro u hu
  simp [tokCells] at hu
  rcases hu with rfl | rfl | rfl | rfl | rfl | rfl <;> rfl
theorem Toks.alloc {B : Nat} {v : Value} {l : List Tk} {w : World} (h : Toks B v l w) (o : Obj) : Toks B v l (w.alloc o) := World.ownsRow.alloc h o
theorem Toks.drewN {B : Nat} {v : Value} {l : List Tk} {w : World} (h : Toks B v l w) (n : Nat) : Toks B v l (w.drewN n) := h
/-- what lex.All leaves -/
def AllRes (q : List Tk × Nat × Int) (w : World) (e : Ending) (w' : World) : Prop :=
  ∃ v, e = .returned (.tuple #[v, .int .i64 q.2.1, .int .i64 q.2.2]) ∧ Below w.heap.size w w' ∧ Toks w.heap.size v q.1 w'

set_option maxRecDepth 100000 in
set_option maxHeartbeats 8000000 in
theorem all_any (s : ByteArray) (w : World) (hE : Env w) : Calls Tryd.prog 7 #[.string s] w (AllRes (tokens s.data.toList) w) := by
  have hst := store_float
  have hl : s.data.toList.length = s.size := by simp
  have HL := Lib.hid hl
  have hR := tokens.eq_def s.data.toList
  rw [hl] at hR
  clear hl
  by_cases h0 : 2000 < s.size
  · rw [if_pos h0] at hR
    have HR := Lib.hid hR; clear hR
    have t3 : decide ((2000 : Int) < (s.size : Int)) = true := by simp; omega
    go_enter Tryd.func7, Tryd.ntmps7
    go_wp2_with fail
    go_ret3
    rw [HR.out]
    exact ⟨_, rfl, Below.refl _ _, World.ownsRow_nil _ _ _ _⟩
  · rw [if_neg h0] at hR
    have HR := Lib.hid hR; clear hR
    have t3 : decide ((2000 : Int) < (s.size : Int)) = false := by simp; omega
    have hs : s.size ≤ 2000 := by omega
    have HI : (Tryd.prog.info? 30).map (fun i => (i.zero, i.size, i.bytes)) = some (some (.agg (tokCells noTk)), 6, 56) := by kernel_rfl
    obtain ⟨i0, hi, hz0, hz1, hz2⟩ := Go.info_parts HI
    have HII := Lib.hid hi
    have HZ0 := Lib.hid hz0
    have HZ1 := Lib.hid hz1
    have HZ2 := Lib.hid hz2
    clear hi hz0 hz1 hz2 HI h0
    have hB : Below w.heap.size w (w.alloc (.cells #[.string s, .int .i64 0] 44)) := (Below.refl _ _).alloc (Nat.le_refl _) _
    have hlx : LexAt w.heap.size s 0 (w.alloc (.cells #[.string s, .int .i64 0] 44)) := heap_alloc_new w _
    have HE := Lib.hid (EnvB.of hE)
    have hT : Toks w.heap.size (.slice none 0 0) [] (w.alloc (.cells #[.string s, .int .i64 0] 44)) := World.ownsRow_nil _ _ _ _
    have HT := Lib.hid (fun (i : Nat) (hi : i ≤ s.size) (b B : Nat) (w0 : World) (h1 : B ≤ b) (h2 : LexAt b s i w0) (h3 : EnvB B w0) => token_any s (by omega) i b B hi h1 w0 h2 h3)
    go_enter Tryd.func7, Tryd.ntmps7
    go_wp2_with fail
    generalize w.alloc (.cells #[.string s, .int .i64 0] 44) = W0 at *
    generalize hgh : w.heap.size = H at *
    have HH := Lib.hid hgh; clear hgh
    go_loopw [2] (fun v wr => ∃ (k f : Nat) (o : List Tk), k ≤ s.size ∧ s.size < f + k ∧ o.length ≤ k ∧ LexAt H s k wr ∧ Below H w wr ∧ Toks H v o wr ∧ Hid (tokens s.data.toList = preT o (allS s.data.toList f k))) (fun _ wr => match wr.cell? ⟨H, 1, none⟩ with | some v => s.size - (intOf v).toNat | none => 0)
    case atStart => exact ⟨0, s.size + 1, [], by omega, by omega, by simp, hlx, hB, hT, by show _ = _; rw [HR.out, preT_nil]⟩
    case round =>
      obtain ⟨k0, f, o, hk0, hf, hok, hlx, hB, hT, hR⟩ := hrel
      have L1 := Lib.hid hlx.c1
      have hE1 : EnvB H wr := HE.out.below hB
      have hsz := hE1.1
      obtain ⟨f, rfl⟩ : ∃ g, f = g + 1 := ⟨f - 1, by omega⟩
      have HC := Lib.hid (fun h => tok_cases (l := s.data.toList) (b := k0) (by rw [HL.out]; exact hk0) h)
      have HG := Lib.hid (fun h h1 => allS_go (l := s.data.toList) (f := f) (b := k0) o h h1)
      have HQ := Lib.hid (fun h h1 => allS_end (l := s.data.toList) (f := f) (b := k0) h h1)
      have HX := Lib.hid (fun h => allS_err (l := s.data.toList) (f := f) (b := k0) h)
      have HTk := Lib.hid (HT.out k0 hk0)
      have hka : k0 ≤ k0 + far isBl s.data.toList k0 := Nat.le_add_right _ _
      generalize k0 + far isBl s.data.toList k0 = a at *
      generalize tokS s.data.toList k0 = r at *
      obtain ⟨rk, re⟩ := r
      dsimp only at HTk HC HG HQ HX
      by_cases h0 : re = 0
      · have t4 : (re != 0) = false := by rw [h0]; rfl
        have HH0 := Lib.hid h0; clear h0
        go_wp2_with fail
        refine (HTk.out H H wr (Nat.le_refl _) hlx hE1).mono ?_; rintro e w1 ⟨k, c, rfl, hp, hlx1, hc, hfr1, hk⟩
        have HK := Lib.hid (hk HH0.out)
        have hPo := Lib.hid hp
        clear hk hp
        have hT1 := hT.kept hlx hfr1
        have hB1 := hB.trans (hfr1.below (B := H) hsz (by simp))
        have hHw : H ≤ w1.heap.size := Nat.le_of_lt hlx1.lt
        have hne : H ≠ w1.heap.size := by have := hlx1.lt; omega
        clear hlx hT hB hfr1
        rw [tokCells_mk k]
        go_upto_region 5 with (fail)
        obtain ⟨hk1, hk2⟩ := HK.out
        have hC := HC.out HH0.out
        rw [HL.out] at hC
        have hlx2 := hlx1.kept ((Fr.refl [] w1).alloc (.cells #[.int .i64 k.kind, .int .i64 k.pos, .int .i64 k.next, .int .i64 k.num, .float .f64 k.flt, .string ⟨k.str.toArray⟩] 30)) (by simp)
        have hB2 := hB1.alloc hHw (.cells #[.int .i64 k.kind, .int .i64 k.pos, .int .i64 k.next, .int .i64 k.num, .float .f64 k.flt, .string ⟨k.str.toArray⟩] 30)
        have hT2 := hT1.alloc (.cells #[.int .i64 k.kind, .int .i64 k.pos, .int .i64 k.next, .int .i64 k.num, .float .f64 k.flt, .string ⟨k.str.toArray⟩] 30)
        have hK2 : TokAt w1.heap.size k (w1.alloc (.cells #[.int .i64 k.kind, .int .i64 k.pos, .int .i64 k.next, .int .i64 k.num, .float .f64 k.flt, .string ⟨k.str.toArray⟩] 30)) := heap_alloc_new w1 _
        rw [← hk1] at hk2
        rcases hC with ⟨hc1, hc2⟩ | ⟨hc1, hc2⟩
        · have hkk : k = ⟨1, s.size, s.size, 0, 0, []⟩ := by rw [hk1]; exact congrArg Prod.fst hc2
          have t5 : (k.kind == 1) = true := by rw [hkk]; rfl
          have HF := Lib.hid (HQ.out HH0.out (by rw [← hk1, hkk]))
          clear hkk hk1 hk2 hc1 hc2
          generalize w1.alloc (.cells #[.int .i64 k.kind, .int .i64 k.pos, .int .i64 k.next, .int .i64 k.num, .float .f64 k.flt, .string ⟨k.str.toArray⟩] 30) = W2 at *
          generalize w1.heap.size = T at *
          have z0 : W2.cell? ⟨T, 0, none⟩ = some (.int .i64 k.kind) := hK2.cell 0
          go_wp2_with fail
          go_ret3
          rw [hR.out, HF.out, preT_end]
          exact ⟨_, rfl, by rw [HH.out]; exact hB2, by rw [HH.out]; exact hT2⟩
        · have t5 : (k.kind == 1) = false := by rw [hk1]; exact beq_eq_false_iff_ne.2 hc2.kind
          have hgo := HG.out HH0.out hc2.kind
          rw [← hk1] at hgo
          have hn1 : a < k.next := by rw [hk1]; exact hc2.lt
          have hn2 : k.next ≤ s.size := by have := hc2.le; rw [HL.out, ← hk1] at this; exact this
          have HF := Lib.hid hgo
          rw [hk2] at hlx2
          clear hk1 hk2 hc1 hc2 hgo HK hT1 hB1 hlx1 hne
          generalize w1.alloc (.cells #[.int .i64 k.kind, .int .i64 k.pos, .int .i64 k.next, .int .i64 k.num, .float .f64 k.flt, .string ⟨k.str.toArray⟩] 30) = W2 at *
          generalize w1.heap.size = T at *
          have z0 : W2.cell? ⟨T, 0, none⟩ = some (.int .i64 k.kind) := hK2.cell 0
          have z1 : W2.cell? ⟨T, 1, none⟩ = some (.int .i64 k.pos) := hK2.cell 1
          have z2 : W2.cell? ⟨T, 2, none⟩ = some (.int .i64 k.next) := hK2.cell 2
          have z3 : W2.cell? ⟨T, 3, none⟩ = some (.int .i64 k.num) := hK2.cell 3
          have z4 : W2.cell? ⟨T, 4, none⟩ = some (.float .f64 k.flt) := hK2.cell 4
          have z5 : W2.cell? ⟨T, 5, none⟩ = some (.string ⟨k.str.toArray⟩) := hK2.cell 5
          have HN : Hid (∀ j u, (tokCells k).toList[j]? = some u → (W2.alloc (.cells #[.int .i64 k.kind, .int .i64 k.pos, .int .i64 k.next, .int .i64 k.num, .float .f64 k.flt, .string ⟨k.str.toArray⟩] 30)).cell? ((⟨W2.heap.size, 0, none⟩ : Addr).add j) = some u) := news_tok (heap_alloc_new W2 _)
          have hH2 : H ≤ W2.heap.size := Nat.le_of_lt hlx2.lt
          have hB3 := hB2.alloc hH2 (.cells #[.int .i64 k.kind, .int .i64 k.pos, .int .i64 k.next, .int .i64 k.num, .float .f64 k.flt, .string ⟨k.str.toArray⟩] 30)
          have hlx3 := hlx2.kept ((Fr.refl [] W2).alloc (.cells #[.int .i64 k.kind, .int .i64 k.pos, .int .i64 k.next, .int .i64 k.num, .float .f64 k.flt, .string ⟨k.str.toArray⟩] 30)) (by simp)
          have hT3 := hT2.alloc (.cells #[.int .i64 k.kind, .int .i64 k.pos, .int .i64 k.next, .int .i64 k.num, .float .f64 k.flt, .string ⟨k.str.toArray⟩] 30)
          have hap := hT3.apart hlx3
          have hH3 : H ≤ (W2.alloc (.cells #[.int .i64 k.kind, .int .i64 k.pos, .int .i64 k.next, .int .i64 k.num, .float .f64 k.flt, .string ⟨k.str.toArray⟩] 30)).heap.size := by simp; omega
          clear hB2 hlx2 hT2 hK2
          go_wp2_with (at_builtin; refine wpList_append_own _ rfl _ _ 24 rfl H 30 i0 (.agg (tokCells noTk)) 6 56 Tryd.underlying24 HII.out HZ0.out HZ1.out HZ2.out rfl (by decide) _ o.length (rowsOf o) rfl hT3 ⟨W2.heap.size, 0, none⟩ 1 1 (tokCells k).toList rfl rfl HN.out (tok_one k) ?c3 ?c4 ?c5 ?_)
          case c3 => unfold maxLen; omega
          case c4 => omega
          case c5 => exact hH3
          intro v' w3 hown' hgrow _
          have hlx4 : LexAt H s k.next w3 := (hgrow.block H hlx3.lt (fun e => hap e.symm)).trans hlx3
          have hB4 := hB3.grown hgrow hH3 (fun g hg => (World.ownsRow.lt hT3 g hg).1)
          have hT4 : Toks H v' (o ++ [k]) w3 := by
            show w3.ownsRow _ _ _ _ (o ++ [k]).length _
            rw [rowsOf_snoc, List.length_append]
            exact hown'
          have E1 := Lib.hid hlx4.c1
          go_wp2_with fail
          go_roundw
          case rel => exact ⟨k.next, f, o ++ [k], hn2, by omega, by simp; omega, hlx4, hB4, hT4, by show _ = _; rw [hR.out, HF.out]⟩
          case measure =>
            rw [E1.out, L1.out]
            show s.size - (k.next : Int).toNat < s.size - (k0 : Int).toNat
            omega
      · have t4 : (re != 0) = true := by rw [bne_iff_ne]; exact h0
        have HH0 := Lib.hid h0; clear h0
        go_wp2_with fail
        refine (HTk.out H H wr (Nat.le_refl _) hlx hE1).mono ?_; rintro e w1 ⟨k, c, rfl, hp, hlx1, hc, hfr1, hk⟩
        have HK := Lib.hid hk
        have hPo := Lib.hid hp
        clear hk hp
        have hT1 := hT.kept hlx hfr1
        have hB1 := hB.trans (hfr1.below (B := H) hsz (by simp))
        have hHw : H ≤ w1.heap.size := Nat.le_of_lt hlx1.lt
        have hne : H ≠ w1.heap.size := by have := hlx1.lt; omega
        clear hlx hT hB hfr1
        rw [tokCells_mk k]
        go_upto_region 5 with (fail)
        have hB2 := hB1.alloc hHw (.cells #[.int .i64 k.kind, .int .i64 k.pos, .int .i64 k.next, .int .i64 k.num, .float .f64 k.flt, .string ⟨k.str.toArray⟩] 30)
        have hK2 : TokAt w1.heap.size k (w1.alloc (.cells #[.int .i64 k.kind, .int .i64 k.pos, .int .i64 k.next, .int .i64 k.num, .float .f64 k.flt, .string ⟨k.str.toArray⟩] 30)) := heap_alloc_new w1 _
        have HF := Lib.hid (HX.out HH0.out)
        generalize w1.alloc (.cells #[.int .i64 k.kind, .int .i64 k.pos, .int .i64 k.next, .int .i64 k.num, .float .f64 k.flt, .string ⟨k.str.toArray⟩] 30) = W2 at *
        generalize w1.heap.size = T at *
        have z1 : W2.cell? ⟨T, 1, none⟩ = some (.int .i64 k.pos) := hK2.cell 1
        go_wp2_with fail
        go_quiet (fail)
        go_wp2_with fail
        go_ret3
        rw [hR.out, HF.out, preT_err _ HH0.out]
        exact ⟨_, by rw [hPo.out]; rfl, by rw [HH.out]; exact hB2.trans ⟨rfl, rfl, rfl, Nat.le_refl _, fun _ _ => rfl⟩, World.ownsRow_nil _ _ _ _⟩
end Go.Proofs.YtkcbkfflabkcgaaDoor
