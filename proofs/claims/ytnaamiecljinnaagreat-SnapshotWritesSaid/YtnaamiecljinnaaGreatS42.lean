/-
  Gm, O1, O2 in one text.
-/
import Derived.ArgAppend
import Derived.Below
import Derived.BigQuiet
import Derived.BigRegion
import Derived.ChangeArms
import Derived.DataReads
import Derived.Deep.AppendLies
import Derived.Deep.Cut
import Derived.Deep.CutBlock
import Derived.Deep.DeepCutAuto
import Derived.Deep.QuietTactic
import Derived.Deep.RegionHeld3
import Derived.Deep.RegionLaw
import Derived.Deep.RegionWith
import Derived.Deep.Upon
import Derived.Defers
import Derived.Handy
import Derived.IntWalk
import Derived.Laws.Bits64b
import Derived.Laws.FloatBits
import Derived.Laws.OwnMore
import Derived.Lib.AtoiAll
import Derived.Lib.Builder
import Derived.Lib.Bytes
import Derived.Lib.ConvBytes
import Derived.Lib.FrozenHead2
import Derived.Lib.Hide
import Derived.Lib.IndexMore
import Derived.Lib.ItoaNum
import Derived.Lib.MinMax
import Derived.Lib.OthersKept
import Derived.Lib.ParseIntB
import Derived.Lib.UnsafeStr
import Derived.LoopTactic
import Derived.OneCell
import Derived.OwnWalk
import Derived.ProofKit
import Derived.Recover
import Derived.RegionTactic
import Derived.Shelf.Abstract
import Derived.SizedLaws
import Derived.StillTailTactics
import Derived.Tactics
import Derived.Tactics2
import Derived.Test.YtnaamiecljinnaaGreatChecked
import Derived.WalkKit
import Derived.WalkLawsBesides
import Derived.WalkSpells
import Derived.WideShapes
import Ieee.Arith
import Derived.Test.YtnaamiecljinnaaGreatS00
import Derived.Test.YtnaamiecljinnaaGreatS01
import Derived.Test.YtnaamiecljinnaaGreatS02
import Derived.Test.YtnaamiecljinnaaGreatS06
import Derived.Test.YtnaamiecljinnaaGreatS08
import Derived.Test.YtnaamiecljinnaaGreatS18
import Derived.Test.YtnaamiecljinnaaGreatS30
import Derived.Test.YtnaamiecljinnaaGreatS33
import Derived.Test.YtnaamiecljinnaaGreatS34
import Derived.Test.YtnaamiecljinnaaGreatS35
import Derived.Test.YtnaamiecljinnaaGreatS37
import Derived.Test.YtnaamiecljinnaaGreatS39
namespace Go.Proofs.YtnaamiecljinnaaGreat
section
open Go.RowKit
theorem inL_of : ∀ (l : List VT), (∀ i, i < l.length → inV (l.getD i noVT)) → inL l
  | [], _ => by rw [inL]; trivial
  | x :: l, h => by
    rw [inL]
    refine ⟨by simpa using h 0 (by simp), inL_of l fun i hi => ?_⟩
    have := h (i + 1) (by simp; omega)
    simpa using this
theorem ValAt.ok {w : World} : ∀ (d : Nat) (v : VT) (cs : Array Value), ValAt w d v cs → inV v
  | 0, _, _, h => h.elim
  | d + 1, .mk k n f s ns its, cs, h => by
    obtain ⟨pn, pi, _, h2, h3, h4, _, _, _, h8⟩ := h
    rw [inV]
    refine ⟨h2, h3, h4, inL_of its fun i hi => ?_⟩
    rcases h8 with ⟨h8, _⟩ | ⟨g, off, cap, _, _, a3⟩
    · have h8 : its = [] := h8
      rw [h8] at hi; simp at hi
    · obtain ⟨ds, b1, _⟩ := a3 i hi
      exact ValAt.ok d _ ds b1
theorem ItAt.ok {w : World} {d k m : Nat} {x : It} {ds : Array Value} (h : ItAt w d k m x ds) : ItOk k m x := by
  obtain ⟨h1, h2, css, _, h4, _⟩ := h
  refine ⟨h1, h2, fun v hv => ?_⟩
  obtain ⟨i, hi⟩ := List.getElem?_of_mem hv
  have hi' : i < x.2.length := (List.getElem?_eq_some_iff.1 hi).1
  have := h4 i (by omega)
  rw [List.getD, hi] at this
  exact ValAt.ok _ _ _ this
theorem SlAt.ok {w : World} {d sz k m : Nat} {v : Value} {l : List It} (h : SlAt w d sz k m v l) : ∀ x ∈ l, ItOk k m x := by
  obtain ⟨sp, sc, _, _, h3⟩ := h
  intro x hx
  obtain ⟨i, hi⟩ := List.getElem?_of_mem hx
  have hi' : i < l.length := (List.getElem?_eq_some_iff.1 hi).1
  obtain ⟨g, off, _, _, ds, h6, _⟩ := h3 i hi'
  rw [List.getD, hi] at h6
  exact h6.ok
theorem PartAt.ok {w : World} {d : Nat} {p : PartT} {cs : Array Value} (h : PartAt w d p cs) : PartOk p := by
  obtain ⟨a, b, c, e, f, _, h0, h1, h2, h3, h4⟩ := h
  exact ⟨h0.ok, h1.ok, h2.ok, h3.ok, h4.ok⟩
theorem nums_len : ∀ (l : List Int) (q : List UInt8), numsE l = some q → q.length ≤ 10 * l.length
  | [], q, h => by rw [numsE_end h]; simp
  | n :: l, q, h => by
    obtain ⟨k, _, _, q2, h2, rfl⟩ := numsE_open h
    have := nums_len l q2 h2
    have := uintS_len k
    simp only [List.length_append, List.length_cons]; omega
theorem vals_len : ∀ (l : List VT) (q : List UInt8), valsE l = some q → q.length ≤ 60000 * l.length
  | [], q, h => by cases h; simp
  | v :: l, q, h => by
    obtain ⟨hr, q2, h2, rfl⟩ := valsE_open h
    have := vals_len l q2 h2
    have := rightB_len hr
    simp only [List.length_append, List.length_cons]; omega
theorem some_len {v : VT} {q : List UInt8} (h : someE v = some q) : q.length ≤ 60001 := by
  unfold someE at h
  split at h
  · split at h
    · cases h; simp
    · cases h
  · obtain ⟨y, hy, rfl⟩ := preB_open h
    have := vals_len [v] y hy
    simp at this ⊢; omega
theorem it_len {so : Bool} {k m : Nat} {x : It} {q : List UInt8} (hx : ItOk k m x) (h : itE so x = some q) : q.length ≤ 10 * k + (if so then 60001 else 60000 * m) := by
  obtain ⟨a, b, h1, h2, rfl⟩ := catO_open h
  have := nums_len _ _ h1
  rw [hx.hk] at this
  cases so with
  | true =>
    have := some_len h2
    simp only [List.length_append, if_true]; omega
  | false =>
    have := vals_len _ _ h2
    rw [hx.hm] at this
    simp only [List.length_append, Bool.false_eq_true, if_false]; omega
theorem its_len {so : Bool} {k m c : Nat} (hc : 10 * k + (if so then 60001 else 60000 * m) ≤ c) : ∀ (l : List It) (q : List UInt8), (∀ x ∈ l, ItOk k m x) → itsE so l = some q → q.length ≤ l.length * c
  | [], q, _, h => by cases h; simp
  | x :: l, q, hx, h => by
    obtain ⟨a, b, h1, h2, rfl⟩ := catO_open h
    have i1 := it_len (hx x (by simp)) h1
    have i2 := its_len hc l b (fun y hy => hx y (by simp [hy])) h2
    simp only [List.length_append, List.length_cons]
    rw [Nat.add_mul, Nat.one_mul]
    omega
theorem sz_of {so : Bool} {k m c N : Nat} {l : List It} (hc : 10 * k + (if so then 60001 else 60000 * m) ≤ c) (hl : l.length ≤ N) (hN : N * c ≤ 17000000) (hx : ∀ x ∈ l, ItOk k m x) : SzOk so l := by
  intro i q h
  have h1 := its_len hc _ _ (fun x hm => hx x (List.mem_of_mem_take hm)) h
  have h2 : (l.take i).length * c ≤ N * c := Nat.mul_le_mul_right c (Nat.le_trans (by rw [List.length_take]; omega) hl)
  omega
theorem list_len {so : Bool} {l : List It} {q : List UInt8} (hz : SzOk so l) (h : listE so l = some q) : q.length ≤ 17000010 := by
  obtain ⟨a, b, h1, h2, rfl⟩ := catO_open h
  have i1 : a.length ≤ 10 := by
    unfold manyE at h1
    split at h1
    · have := nums_len _ _ h1; simpa using this
    · cases h1
  have i2 := hz l.length b (by rw [List.take_of_length_le (Nat.le_refl _)]; exact h2)
  simp only [List.length_append]; omega
theorem part_len {p : PartT} {q : List UInt8} (hz : SzAll p) (h : partE p = some q) : q.length ≤ 100000000 := by
  obtain ⟨y, g0, rfl⟩ := preB_open h
  obtain ⟨a, y1, ha, g1, rfl⟩ := catO_open g0
  obtain ⟨w, y2, hw, g2, rfl⟩ := catO_open g1
  obtain ⟨s, y3, hs, g3, rfl⟩ := catO_open g2
  obtain ⟨u, y4, hu, g4, rfl⟩ := catO_open g3
  obtain ⟨t, y5, ht, g5, rfl⟩ := catO_open g4
  obtain ⟨d, y6, hd, g6, rfl⟩ := catO_open g5
  cases g6
  have := nums_len _ _ ha
  have := list_len hz.h0 hw
  have := list_len hz.h1 hs
  have := list_len hz.h2 hu
  have := list_len hz.h3 ht
  have := list_len hz.h4 hd
  simp [magicB] at *
  omega
theorem SzAll.of {p : PartT} (hp : PartOk p) (h : p.waits.length ≤ 60 ∧ p.spots.length ≤ 600 ∧ p.puts.length ≤ 60 ∧ p.letters.length ≤ 60 ∧ p.audits.length ≤ 60) : SzAll p :=
  ⟨sz_of (c := 60060) (by simp) h.1 (by omega) hp.h0, sz_of (c := 100) (by simp) h.2.1 (by omega) hp.h1, sz_of (c := 60060) (by simp) h.2.2.1 (by omega) hp.h2, sz_of (c := 120060) (by simp) h.2.2.2.1 (by omega) hp.h3, sz_of (c := 60060) (by simp) h.2.2.2.2 (by omega) hp.h4⟩
mutual
theorem canV_canV : ∀ v : VT, canV (canV v) = canV v
  | .mk k n f s ns its => by rw [canV, canV, canon_canon, canL_canL its]
theorem canL_canL : ∀ l : List VT, canL (canL l) = canL l
  | [] => by rw [canL, canL]
  | x :: l => by rw [canL, canL, canV_canV x, canL_canL l]
end
theorem canI_canI (x : It) : canI (canI x) = canI x := by
  unfold canI
  simp only [List.map_map]
  congr 1
  exact List.map_congr_left fun v _ => canV_canV v
theorem canP_canP (p : PartT) : canP (canP p) = canP p := by
  have h : ∀ l : List It, (l.map canI).map canI = l.map canI := fun l => by
    rw [List.map_map]; exact List.map_congr_left fun x _ => canI_canI x
  unfold canP
  simp only [h]
set_option maxRecDepth 100000 in
set_option maxHeartbeats 2000000 in
theorem writes_any (p : PartT) (d : Nat) (cs : Array Value) (w : World) (hp : PartAt w (d + 1) p cs) :
    Calls Tryz.prog 3 #[.agg cs] w (Gives (.bool true) w) := by
  have HA := Lib.hid (fun w => awake_any w)
  have HSm := Lib.hid (fun x (hx : Below w.heap.size w x) => rsmall27_any p d cs x (hp.kept hx))
  have HBy := Lib.hid (fun hz x (hx : Below w.heap.size w x) => Bytes_any p d cs hz x (hp.kept hx))
  have HRb := Lib.hid (fun x (hx : Below w.heap.size w x) => rBytes_any p d cs x (hp.kept hx))
  have HSz := Lib.hid (fun h => SzAll.of hp.ok h)
  have HLen := Lib.hid (fun q hz h => part_len (p := p) (q := q) hz h)
  have HEnc := Lib.hid (fun q h => partR_enc (p := p) (q := q) hp.ok h)
  have HSP := Lib.hid (fun cs2 x (hx : Below w.heap.size w x) h2 => rsamePart_any p (canP p) d 11 cs cs2 x (hp.kept hx) h2 (canP_canP p).symm)
  obtain ⟨_, _, _, _, _, rfl, ⟨s0, c0, rfl, _⟩, ⟨s1, c1, rfl, _⟩, ⟨s2, c2, rfl, _⟩, ⟨s3, c3, rfl, _⟩, ⟨s4, c4, rfl, _⟩⟩ := hp
  generalize hn0 : p.waits.length = n0 at HSm HBy HRb HSP HSz ⊢
  clear hn0
  generalize hn1 : p.spots.length = n1 at HSm HBy HRb HSP HSz ⊢
  clear hn1
  generalize hn2 : p.puts.length = n2 at HSm HBy HRb HSP HSz ⊢
  clear hn2
  generalize hn3 : p.letters.length = n3 at HSm HBy HRb HSP HSz ⊢
  clear hn3
  generalize hn4 : p.audits.length = n4 at HSm HBy HRb HSP HSz ⊢
  clear hn4
  have g0 : (w.alloc (.cells #[.int .i64 p.next, .int .i64 p.begun, .slice s0 n0 c0, .slice s1 n1 c1, .slice s2 n2 c2, .slice s3 n3 c3, .slice s4 n4 c4] 28)).heap[w.heap.size]? = some (.cells #[.int .i64 p.next, .int .i64 p.begun, .slice s0 n0 c0, .slice s1 n1 c1, .slice s2 n2 c2, .slice s3 n3 c3, .slice s4 n4 c4] 28 (0, 0)) := heap_alloc_new w _
  have b0 : Below w.heap.size w (w.alloc (.cells #[.int .i64 p.next, .int .i64 p.begun, .slice s0 n0 c0, .slice s1 n1 c1, .slice s2 n2 c2, .slice s3 n3 c3, .slice s4 n4 c4] 28)) := (Below.refl _ _).alloc (Nat.le_refl _) _
  generalize hgh : w.heap.size = H at *
  have HH := Lib.hid hgh; clear hgh
  go_enter Tryz.func3, Tryz.ntmps3
  go_upto_region 1 with (fail)
  rw [HH.out]
  generalize w.alloc (.cells #[.int .i64 p.next, .int .i64 p.begun, .slice s0 n0 c0, .slice s1 n1 c1, .slice s2 n2 c2, .slice s3 n3 c3, .slice s4 n4 c4] 28) = w0 at *
  go_wp2_with fail
  refine (HA.out _).mono ?_; rintro e w1 ⟨rfl, hb1⟩
  have g1 := (hb1.block H (lt_of_block g0)).trans g0
  have b1 := b0.trans (hb1.mono (Nat.le_of_lt (lt_of_block g0)))
  clear hb1 g0 b0
  have d0 : w1.cell? ⟨H, 0, none⟩ = some (.int .i64 p.next) := by rw [Lib.cell_of_heap g1]; rfl
  have d1 : w1.cell? ⟨H, 1, none⟩ = some (.int .i64 p.begun) := by rw [Lib.cell_of_heap g1]; rfl
  have d2 : w1.cell? ⟨H, 2, none⟩ = some (.slice s0 n0 c0) := by rw [Lib.cell_of_heap g1]; rfl
  have d3 : w1.cell? ⟨H, 3, none⟩ = some (.slice s1 n1 c1) := by rw [Lib.cell_of_heap g1]; rfl
  have d4 : w1.cell? ⟨H, 4, none⟩ = some (.slice s2 n2 c2) := by rw [Lib.cell_of_heap g1]; rfl
  have d5 : w1.cell? ⟨H, 5, none⟩ = some (.slice s3 n3 c3) := by rw [Lib.cell_of_heap g1]; rfl
  have d6 : w1.cell? ⟨H, 6, none⟩ = some (.slice s4 n4 c4) := by rw [Lib.cell_of_heap g1]; rfl
  go_wp2_with fail
  refine (HSm.out _ b1).mono ?_; rintro e w2 ⟨bb, rfl, hb2, hlen⟩
  have g2 := (hb2.block H (lt_of_block g1)).trans g1
  have b2 := b1.trans (hb2.mono (Nat.le_of_lt (lt_of_block g1)))
  clear d0 d1 d2 d3 d4 d5 d6
  have d0 : w2.cell? ⟨H, 0, none⟩ = some (.int .i64 p.next) := by rw [Lib.cell_of_heap g2]; rfl
  have d1 : w2.cell? ⟨H, 1, none⟩ = some (.int .i64 p.begun) := by rw [Lib.cell_of_heap g2]; rfl
  have d2 : w2.cell? ⟨H, 2, none⟩ = some (.slice s0 n0 c0) := by rw [Lib.cell_of_heap g2]; rfl
  have d3 : w2.cell? ⟨H, 3, none⟩ = some (.slice s1 n1 c1) := by rw [Lib.cell_of_heap g2]; rfl
  have d4 : w2.cell? ⟨H, 4, none⟩ = some (.slice s2 n2 c2) := by rw [Lib.cell_of_heap g2]; rfl
  have d5 : w2.cell? ⟨H, 5, none⟩ = some (.slice s3 n3 c3) := by rw [Lib.cell_of_heap g2]; rfl
  have d6 : w2.cell? ⟨H, 6, none⟩ = some (.slice s4 n4 c4) := by rw [Lib.cell_of_heap g2]; rfl
  clear hb2 g1 b1
  cases bb with
  | false =>
    clear hlen
    go_wp2_with fail
    refine (HA.out _).mono ?_; rintro e w3 ⟨rfl, hb3⟩
    go_wp2_with fail
    go_ret
    exact ⟨rfl, by rw [HH.out]; exact b2.trans (hb3.mono (Nat.le_of_lt (lt_of_block g2)))⟩
  | true =>
    have HZ := Lib.hid (HSz.out (hlen rfl))
    clear hlen
    have HB2 := Lib.hid (HBy.out HZ.out)
    clear HBy
    generalize hE : partE p = E at HB2 HRb
    cases E with
    | none =>
      have HB3 := Lib.hid (fun x hx => (show Calls Tryz.prog 8 #[.agg #[.int .i64 p.next, .int .i64 p.begun, .slice s0 n0 c0, .slice s1 n1 c1, .slice s2 n2 c2, .slice s3 n3 c3, .slice s4 n4 c4]] x (Gives (.tuple #[.string ⟨#[]⟩, .int .i64 5]) x) from HB2.out x hx))
      have HR3 := Lib.hid (fun x hx => (show Calls Tryz.prog 9 #[.agg #[.int .i64 p.next, .int .i64 p.begun, .slice s0 n0 c0, .slice s1 n1 c1, .slice s2 n2 c2, .slice s3 n3 c3, .slice s4 n4 c4]] x (Gives (.tuple #[.string ⟨#[]⟩, .bool false]) x) from HRb.out x hx))
      clear hE
      go_wp2_with fail
      refine (HB3.out _ b2).mono ?_; rintro e w3 ⟨rfl, hb3⟩
      have g3 := (hb3.block H (lt_of_block g2)).trans g2
      have b3 := b2.trans (hb3.mono (Nat.le_of_lt (lt_of_block g2)))
      clear d0 d1 d2 d3 d4 d5 d6
      have d0 : w3.cell? ⟨H, 0, none⟩ = some (.int .i64 p.next) := by rw [Lib.cell_of_heap g3]; rfl
      have d1 : w3.cell? ⟨H, 1, none⟩ = some (.int .i64 p.begun) := by rw [Lib.cell_of_heap g3]; rfl
      have d2 : w3.cell? ⟨H, 2, none⟩ = some (.slice s0 n0 c0) := by rw [Lib.cell_of_heap g3]; rfl
      have d3 : w3.cell? ⟨H, 3, none⟩ = some (.slice s1 n1 c1) := by rw [Lib.cell_of_heap g3]; rfl
      have d4 : w3.cell? ⟨H, 4, none⟩ = some (.slice s2 n2 c2) := by rw [Lib.cell_of_heap g3]; rfl
      have d5 : w3.cell? ⟨H, 5, none⟩ = some (.slice s3 n3 c3) := by rw [Lib.cell_of_heap g3]; rfl
      have d6 : w3.cell? ⟨H, 6, none⟩ = some (.slice s4 n4 c4) := by rw [Lib.cell_of_heap g3]; rfl
      clear hb3 g2 b2
      go_wp2_with fail
      refine (HR3.out _ b3).mono ?_; rintro e w4 ⟨rfl, hb4⟩
      go_wp2_with fail
      go_ret
      exact ⟨rfl, by rw [HH.out]; exact b3.trans (hb4.mono (Nat.le_of_lt (lt_of_block g3)))⟩
    | some q =>
      have HB3 := Lib.hid (fun x hx => (show Calls Tryz.prog 8 #[.agg #[.int .i64 p.next, .int .i64 p.begun, .slice s0 n0 c0, .slice s1 n1 c1, .slice s2 n2 c2, .slice s3 n3 c3, .slice s4 n4 c4]] x (Gives (.tuple #[.string ⟨q.toArray⟩, .int .i64 0]) x) from HB2.out x hx))
      have HR3 := Lib.hid (fun x hx => (show Calls Tryz.prog 9 #[.agg #[.int .i64 p.next, .int .i64 p.begun, .slice s0 n0 c0, .slice s1 n1 c1, .slice s2 n2 c2, .slice s3 n3 c3, .slice s4 n4 c4]] x (Gives (.tuple #[.string ⟨q.toArray⟩, .bool true]) x) from HRb.out x hx))
      have HRd := Lib.hid (fun x => (show Calls Tryz.prog 10 #[.string ⟨q.toArray⟩] x (fun e w' => ∃ cs, e = .returned (.tuple #[.agg cs, .int .i64 0]) ∧ PartIn (fun g => x.heap.size ≤ g) w' 12 (canP p) cs ∧ Below x.heap.size x w') from by
        have := Read_any ⟨q.toArray⟩ (by have := HLen.out q HZ.out hE; simpa [ByteArray.size] using this) x
        rw [show (⟨q.toArray⟩ : ByteArray).data.toList = q by simp, HEnc.out q hE] at this
        exact this))
      have tS : ((⟨q.toArray⟩ : ByteArray).toList == (⟨q.toArray⟩ : ByteArray).toList) = true := by simp
      clear hE
      generalize (⟨q.toArray⟩ : ByteArray) = sq at *
      go_wp2_with fail
      refine (HB3.out _ b2).mono ?_; rintro e w3 ⟨rfl, hb3⟩
      have g3 := (hb3.block H (lt_of_block g2)).trans g2
      have b3 := b2.trans (hb3.mono (Nat.le_of_lt (lt_of_block g2)))
      clear d0 d1 d2 d3 d4 d5 d6
      have d0 : w3.cell? ⟨H, 0, none⟩ = some (.int .i64 p.next) := by rw [Lib.cell_of_heap g3]; rfl
      have d1 : w3.cell? ⟨H, 1, none⟩ = some (.int .i64 p.begun) := by rw [Lib.cell_of_heap g3]; rfl
      have d2 : w3.cell? ⟨H, 2, none⟩ = some (.slice s0 n0 c0) := by rw [Lib.cell_of_heap g3]; rfl
      have d3 : w3.cell? ⟨H, 3, none⟩ = some (.slice s1 n1 c1) := by rw [Lib.cell_of_heap g3]; rfl
      have d4 : w3.cell? ⟨H, 4, none⟩ = some (.slice s2 n2 c2) := by rw [Lib.cell_of_heap g3]; rfl
      have d5 : w3.cell? ⟨H, 5, none⟩ = some (.slice s3 n3 c3) := by rw [Lib.cell_of_heap g3]; rfl
      have d6 : w3.cell? ⟨H, 6, none⟩ = some (.slice s4 n4 c4) := by rw [Lib.cell_of_heap g3]; rfl
      clear hb3 g2 b2
      go_wp2_with fail
      refine (HR3.out _ b3).mono ?_; rintro e w4 ⟨rfl, hb4⟩
      have g4 := (hb4.block H (lt_of_block g3)).trans g3
      have b4 := b3.trans (hb4.mono (Nat.le_of_lt (lt_of_block g3)))
      clear d0 d1 d2 d3 d4 d5 d6 hb4 g3 b3
      go_wp2_with fail
      refine (HRd.out _).mono ?_; rintro e w5 ⟨cs, rfl, hqi, hb5⟩
      have hq5 : PartAt w5 12 (canP p) cs := hqi.at
      clear hqi
      have g5 := (hb5.block H (lt_of_block g4)).trans g4
      have b5 := b4.trans (hb5.mono (Nat.le_of_lt (lt_of_block g4)))
      clear hb5 g4 b4
      obtain ⟨_, _, _, _, _, rfl, ⟨r0, e0, rfl, _⟩, ⟨r1, e1, rfl, _⟩, ⟨r2, e2, rfl, _⟩, ⟨r3, e3, rfl, _⟩, ⟨r4, e4, rfl, _⟩⟩ := id hq5
      go_upto_region 8 with (fail)
      have k6 : (w5.alloc (.cells #[.int .i64 (canP p).next, .int .i64 (canP p).begun, .slice r0 (canP p).waits.length e0, .slice r1 (canP p).spots.length e1, .slice r2 (canP p).puts.length e2, .slice r3 (canP p).letters.length e3, .slice r4 (canP p).audits.length e4] 28)).heap[w5.heap.size]? = some (.cells #[.int .i64 (canP p).next, .int .i64 (canP p).begun, .slice r0 (canP p).waits.length e0, .slice r1 (canP p).spots.length e1, .slice r2 (canP p).puts.length e2, .slice r3 (canP p).letters.length e3, .slice r4 (canP p).audits.length e4] 28 (0, 0)) := heap_alloc_new w5 _
      have g6 := (Lib.alloc_old w5 (.cells #[.int .i64 (canP p).next, .int .i64 (canP p).begun, .slice r0 (canP p).waits.length e0, .slice r1 (canP p).spots.length e1, .slice r2 (canP p).puts.length e2, .slice r3 (canP p).letters.length e3, .slice r4 (canP p).audits.length e4] 28) H (lt_of_block g5)).trans g5
      have b6 := b5.alloc (Nat.le_of_lt (lt_of_block g5)) (.cells #[.int .i64 (canP p).next, .int .i64 (canP p).begun, .slice r0 (canP p).waits.length e0, .slice r1 (canP p).spots.length e1, .slice r2 (canP p).puts.length e2, .slice r3 (canP p).letters.length e3, .slice r4 (canP p).audits.length e4] 28)
      have q6 := hq5.kept ((Below.refl _ _).alloc (Nat.le_refl _) (.cells #[.int .i64 (canP p).next, .int .i64 (canP p).begun, .slice r0 (canP p).waits.length e0, .slice r1 (canP p).spots.length e1, .slice r2 (canP p).puts.length e2, .slice r3 (canP p).letters.length e3, .slice r4 (canP p).audits.length e4] 28))
      clear hq5 g5 b5
      generalize w5.alloc (.cells #[.int .i64 (canP p).next, .int .i64 (canP p).begun, .slice r0 (canP p).waits.length e0, .slice r1 (canP p).spots.length e1, .slice r2 (canP p).puts.length e2, .slice r3 (canP p).letters.length e3, .slice r4 (canP p).audits.length e4] 28) = w6 at *
      generalize w5.heap.size = B at *
      have d0 : w6.cell? ⟨H, 0, none⟩ = some (.int .i64 p.next) := by rw [Lib.cell_of_heap g6]; rfl
      have d1 : w6.cell? ⟨H, 1, none⟩ = some (.int .i64 p.begun) := by rw [Lib.cell_of_heap g6]; rfl
      have d2 : w6.cell? ⟨H, 2, none⟩ = some (.slice s0 n0 c0) := by rw [Lib.cell_of_heap g6]; rfl
      have d3 : w6.cell? ⟨H, 3, none⟩ = some (.slice s1 n1 c1) := by rw [Lib.cell_of_heap g6]; rfl
      have d4 : w6.cell? ⟨H, 4, none⟩ = some (.slice s2 n2 c2) := by rw [Lib.cell_of_heap g6]; rfl
      have d5 : w6.cell? ⟨H, 5, none⟩ = some (.slice s3 n3 c3) := by rw [Lib.cell_of_heap g6]; rfl
      have d6 : w6.cell? ⟨H, 6, none⟩ = some (.slice s4 n4 c4) := by rw [Lib.cell_of_heap g6]; rfl
      have f0 : w6.cell? ⟨B, 0, none⟩ = some (.int .i64 (canP p).next) := by rw [Lib.cell_of_heap k6]; rfl
      have f1 : w6.cell? ⟨B, 1, none⟩ = some (.int .i64 (canP p).begun) := by rw [Lib.cell_of_heap k6]; rfl
      have f2 : w6.cell? ⟨B, 2, none⟩ = some (.slice r0 (canP p).waits.length e0) := by rw [Lib.cell_of_heap k6]; rfl
      have f3 : w6.cell? ⟨B, 3, none⟩ = some (.slice r1 (canP p).spots.length e1) := by rw [Lib.cell_of_heap k6]; rfl
      have f4 : w6.cell? ⟨B, 4, none⟩ = some (.slice r2 (canP p).puts.length e2) := by rw [Lib.cell_of_heap k6]; rfl
      have f5 : w6.cell? ⟨B, 5, none⟩ = some (.slice r3 (canP p).letters.length e3) := by rw [Lib.cell_of_heap k6]; rfl
      have f6 : w6.cell? ⟨B, 6, none⟩ = some (.slice r4 (canP p).audits.length e4) := by rw [Lib.cell_of_heap k6]; rfl
      have HF := Lib.hid (HSP.out _ _ b6 q6)
      go_wp2_with fail
      refine (HF.out).mono ?_; rintro e w7 ⟨rfl, hb7⟩
      go_wp2_with fail
      go_ret
      exact ⟨rfl, by rw [HH.out]; exact b6.trans (hb7.mono (Nat.le_of_lt (lt_of_block g6)))⟩
end
section
open Go.RowKit
/-- each string and slice within it is within the row's bound -/
def Sized {H : Type} (P : Program) (t : TypeId) (d : DataW H) : Prop := ∀ n ∈ DataW.weights P t d, n ≤ reachBytes
section
variable {H : Type} {enc : TypeId × Value → H} {P : Program} {w : World} {base : Nat} {sp : Nat → Bool} {held : Bool}
theorem Sized.part {t : TypeId} {fs : Array Field} {parts : List (DataW H)} (ht : P.underlying t = some (.struct fs)) (h : Sized P t (.agg parts)) {i : Nat} {f : Field} {d : DataW H} (hf : fs[i]? = some f) (hd : parts[i]? = some d) : Sized P f.type d := by
  intro n hn
  refine h n ?_
  simp only [DataW.weights, ht]
  exact DataW.weights_mem_each (by rw [List.getElem?_map, Array.getElem?_toList, hf]; rfl) hd n hn
theorem weights_mem_all {e : TypeId} : ∀ {l : List (DataW H)} {i : Nat} {d : DataW H}, l[i]? = some d → ∀ n ∈ DataW.weights P e d, n ∈ DataW.weightsAll P e l
  | d0 :: l, 0, d, h, n, hn => by
    simp only [List.getElem?_cons_zero, Option.some.injEq] at h
    subst h
    simp only [DataW.weightsAll, List.mem_append]
    exact Or.inl hn
  | d0 :: l, i + 1, d, h, n, hn => by
    simp only [List.getElem?_cons_succ] at h
    simp only [DataW.weightsAll, List.mem_append]
    exact Or.inr (weights_mem_all h n hn)
  | [], _, _, h, _, _ => by simp at h
theorem Sized.elem {t e : TypeId} {elems rest : List (DataW H)} (ht : P.underlying t = some (.slice e)) (h : Sized P t (.slice elems rest)) {i : Nat} {d : DataW H} (hd : elems[i]? = some d) : Sized P e d := by
  intro n hn
  refine h n ?_
  simp only [DataW.weights, ht]
  exact List.mem_cons_of_mem _ (List.mem_append_left _ (weights_mem_all hd n hn))
theorem Sized.slice {t e : TypeId} {elems rest : List (DataW H)} (ht : P.underlying t = some (.slice e)) (h : Sized P t (.slice elems rest)) : (elems.length + rest.length) * P.bytesOf e ≤ reachBytes := by
  refine h _ ?_
  simp only [DataW.weights, ht]
  exact List.mem_cons_self
theorem Sized.string {t : TypeId} {l : List UInt8} (h : Sized P t (.lit (.string l) : DataW H)) : l.length ≤ reachBytes := h _ (by simp [DataW.weights])
theorem open_string {t : TypeId} {n : Nat} {cs : List Value} {x : DataW H × List MemPlace} (ht : P.underlying t = some .string) (h : DataW.trod enc P w base sp held n t cs = some x) (hz : Sized P t x.1) :
    ∃ l : List UInt8, cs = [.string ⟨l.toArray⟩] ∧ l.length ≤ 140737488355328 := by
  obtain ⟨s, rfl, rfl, _⟩ := DataW.trod_string ht h
  refine ⟨s.data.toList, by cases s; simp, Nat.le_trans hz.string (by unfold reachBytes; omega)⟩
theorem open_int {t : TypeId} {n : Nat} {cs : List Value} {x : DataW H × List MemPlace} (ht : P.underlying t = some (.int .i64)) (h : DataW.trod enc P w base sp held n t cs = some x) :
    ∃ k : Int, cs = [.int .i64 k] ∧ -9223372036854775808 ≤ k ∧ k ≤ 9223372036854775807 := by
  obtain ⟨k, rfl, _, hw⟩ := DataW.trod_int ht h
  have hw : decide (IntKind.i64.min ≤ k) = true ∧ decide (k ≤ IntKind.i64.max) = true := by simpa [Lit.wf] using hw
  have h1 := of_decide_eq_true hw.1
  have h2 := of_decide_eq_true hw.2
  exact ⟨k, rfl, h1, h2⟩
theorem open_float64 {t : TypeId} {n : Nat} {cs : List Value} {x : DataW H × List MemPlace} (ht : P.underlying t = some (.float .f64)) (h : DataW.trod enc P w base sp held n t cs = some x) :
    ∃ k : Nat, cs = [.float .f64 k] ∧ k < 18446744073709551616 := by
  cases n with
  | zero => simp [DataW.trod] at h
  | succ n =>
    unfold DataW.trod at h
    rw [ht] at h
    split at h
    all_goals first | (simp_all; done) | skip
    rename_i k k' b heq
    simp only [Option.some.injEq, TypeDesc.float.injEq] at heq
    subst heq
    split at h
    · rename_i hw
      obtain ⟨rfl, hw⟩ := hw
      exact ⟨b, rfl, by simpa [Lit.wf] using hw⟩
    · cases h
/-- a slice that came in: its elements, each with its reading -/
theorem open_sl {t e : TypeId} {size fuel : Nat} {cs : List Value} {x : DataW H × List MemPlace} (ht : P.underlying t = some (.slice e)) (hc : P.cellsOf e = size) (hs : 0 < size) (hb : 0 < P.bytesOf e)
    (h : DataW.trod enc P w base sp held fuel t cs = some x) (hz : Sized P t x.1) :
    ∃ p len cap, cs = [.slice p len cap] ∧ len ≤ 140737488355328 ∧ (len = 0 ∨ ∃ g off m, p = some ⟨g, off, none⟩ ∧ g < w.heap.size ∧ fuel = m + 1 ∧
      ∀ i, i < len → ∃ ds y, ds.length = size ∧ DataW.trod enc P w base sp held m e ds = some y ∧ Sized P e y.1 ∧ ∀ j, j < size → w.cell? ⟨g, off + i * size + j, none⟩ = ds[j]?) := by
  rcases DataW.trod_slice ht h with ⟨rfl, _⟩ | ⟨a, len, cap, elems, rest, m, rfl, rfl, hx, _, _, _, hlen, hel, _, _⟩
  · exact ⟨none, 0, 0, rfl, by omega, .inl rfl⟩
  · rw [hx] at hz
    have hsz := hz.slice ht
    rw [List.length_map, List.length_map, hlen] at hsz
    have hl : len ≤ 140737488355328 := by
      have h1 : len * 1 ≤ (len + rest.length) * P.bytesOf e := Nat.mul_le_mul (by omega) hb
      unfold reachBytes at hsz
      omega
    have each : ∀ i, i < len → ∃ ds y, ds.length = size ∧ DataW.trod enc P w base sp held m e ds = some y ∧ Sized P e y.1 ∧ ∀ j, j < size → w.cell? ((a.add (i * size)).add j) = ds[j]? := by
      intro i hi
      have hE := hel i hi
      rw [hc] at hE
      have hi' : i < elems.length := by omega
      rw [List.getElem?_eq_getElem hi', Option.bind_eq_some_iff] at hE
      obtain ⟨ds, hds, hy⟩ := hE
      unfold World.cells? at hds
      split at hds
      · have h1 := mapM_some_length hds
        simp only [List.length_range] at h1
        exact ⟨ds, _, h1, hy, hz.elem ht (i := i) (by rw [List.getElem?_map, List.getElem?_eq_getElem hi']; rfl), fun j hj => mapM_some_get hds j j (by simp [hj])⟩
      · cases hds
    by_cases h0 : len = 0
    · exact ⟨some a, len, cap, rfl, hl, .inl h0⟩
    · obtain ⟨ds, y, k1, _, _, k2⟩ := each 0 (by omega)
      have k3 := k2 0 hs
      have hd0 : ∃ v, ds[0]? = some v := ⟨ds[0]'(by omega), List.getElem?_eq_getElem (by omega)⟩
      obtain ⟨v, hv⟩ := hd0
      rw [hv] at k3
      have hspot := World.cell?_spot k3
      obtain ⟨g, off, e0⟩ := a
      have hsp : e0 = none := by
        simp [Addr.add] at hspot
        exact hspot
      subst hsp
      rw [Go.WideShapes.add_plain, Go.WideShapes.add_plain] at k3
      refine ⟨_, len, cap, rfl, hl, .inr ⟨g, off, m, rfl, World.block_lt_of_cell? w _ k3, rfl, fun i hi => ?_⟩⟩
      obtain ⟨ds, y, k1, k2, k3, k4⟩ := each i hi
      refine ⟨ds, y, k1, k2, k3, fun j hj => ?_⟩
      rw [← k4 j hj, Go.WideShapes.add_plain, Go.WideShapes.add_plain]
/-- a struct that came in: its fields, each with its reading -/
theorem open_st {t : TypeId} {fs : Array Field} {fuel : Nat} {cs : List Value} {x : DataW H × List MemPlace} (ht : P.underlying t = some (.struct fs)) (h : DataW.trod enc P w base sp held fuel t cs = some x) (hz : Sized P t x.1) :
    ∃ n, fuel = n + 1 ∧ cs.length = P.cellsOf t ∧ ∀ (i : Nat) (f : Field), fs[i]? = some f → ∃ y, DataW.trod enc P w base sp held n f.type ((cs.drop f.offset).take (P.cellsOf f.type)) = some y ∧ Sized P f.type y.1 := by
  obtain ⟨xs, n, rfl, hx, hl, hn, hf⟩ := DataW.trod_struct ht h
  refine ⟨n, rfl, hl, fun i f hi => ?_⟩
  have h1 := hf i f hi
  have hi' : i < xs.length := by rw [hn]; exact (Array.getElem?_eq_some_iff.1 hi).1
  rw [List.getElem?_eq_getElem hi'] at h1
  rw [hx] at hz
  exact ⟨_, h1, hz.part ht hi (by rw [List.getElem?_map, List.getElem?_eq_getElem hi']; rfl)⟩
end
/-- what holds at each place, as one list -/
theorem list_of {T : Type} (d : T) : ∀ (n : Nat) (p : Nat → T → Prop), (∀ i, i < n → ∃ v, p i v) → ∃ l : List T, l.length = n ∧ ∀ i, i < n → p i (l.getD i d)
  | 0, _, _ => ⟨[], rfl, fun i hi => absurd hi (Nat.not_lt_zero i)⟩
  | n + 1, p, h => by
    obtain ⟨v, hv⟩ := h 0 (by omega)
    obtain ⟨l, h1, h2⟩ := list_of d n (fun i => p (i + 1)) (fun i hi => h (i + 1) (by omega))
    refine ⟨v :: l, by simp [h1], fun i hi => ?_⟩
    match i, hi with
    | 0, _ => exact hv
    | i + 1, hi => simpa using h2 i (by omega)
theorem ValAt.le {w : World} {d e : Nat} {v : VT} {cs : Array Value} (h : ValAt w d v cs) (hd : d ≤ e) : ValAt w e v cs := by
  obtain ⟨k, rfl⟩ := Nat.exists_eq_add_of_le hd
  clear hd
  induction k with
  | zero => exact h
  | succ k ih => exact ValAt.more _ _ _ ih
end
section
open Go.RowKit
theorem list4 {α : Type} {l : List α} (h : l.length = 4) : ∃ c0 c1 c2 c3, l = [c0, c1, c2, c3] := by
  match l, h with
  | [c0, c1, c2, c3], _ => exact ⟨c0, c1, c2, c3, rfl⟩
theorem list6 {α : Type} {l : List α} (h : l.length = 6) : ∃ c0 c1 c2 c3 c4 c5, l = [c0, c1, c2, c3, c4, c5] := by
  match l, h with
  | [c0, c1, c2, c3, c4, c5], _ => exact ⟨c0, c1, c2, c3, c4, c5, rfl⟩
theorem list7 {α : Type} {l : List α} (h : l.length = 7) : ∃ c0 c1 c2 c3 c4 c5 c6, l = [c0, c1, c2, c3, c4, c5, c6] := by
  match l, h with
  | [c0, c1, c2, c3, c4, c5, c6], _ => exact ⟨c0, c1, c2, c3, c4, c5, c6, rfl⟩
theorem list9 {α : Type} {l : List α} (h : l.length = 9) : ∃ c0 c1 c2 c3 c4 c5 c6 c7 c8, l = [c0, c1, c2, c3, c4, c5, c6, c7, c8] := by
  match l, h with
  | [c0, c1, c2, c3, c4, c5, c6, c7, c8], _ => exact ⟨c0, c1, c2, c3, c4, c5, c6, c7, c8, rfl⟩
theorem list11 {α : Type} {l : List α} (h : l.length = 11) : ∃ c0 c1 c2 c3 c4 c5 c6 c7 c8 c9 c10, l = [c0, c1, c2, c3, c4, c5, c6, c7, c8, c9, c10] := by
  match l, h with
  | [c0, c1, c2, c3, c4, c5, c6, c7, c8, c9, c10], _ => exact ⟨c0, c1, c2, c3, c4, c5, c6, c7, c8, c9, c10, rfl⟩
theorem list13 {α : Type} {l : List α} (h : l.length = 13) : ∃ c0 c1 c2 c3 c4 c5 c6 c7 c8 c9 c10 c11 c12, l = [c0, c1, c2, c3, c4, c5, c6, c7, c8, c9, c10, c11, c12] := by
  match l, h with
  | [c0, c1, c2, c3, c4, c5, c6, c7, c8, c9, c10, c11, c12], _ => exact ⟨c0, c1, c2, c3, c4, c5, c6, c7, c8, c9, c10, c11, c12, rfl⟩
theorem cz_int : Tryz.prog.cellsOf 3 = 1 := by kernel_rfl
theorem cz_int64 : Tryz.prog.cellsOf 2 = 1 := by kernel_rfl
theorem cz_float64 : Tryz.prog.cellsOf 54 = 1 := by kernel_rfl
theorem cz_string : Tryz.prog.cellsOf 9 = 1 := by kernel_rfl
theorem cz_s_string : Tryz.prog.cellsOf 42 = 1 := by kernel_rfl
theorem cz_s_Value : Tryz.prog.cellsOf 55 = 1 := by kernel_rfl
theorem cz_Value : Tryz.prog.cellsOf 57 = 6 := by kernel_rfl
theorem cz_Ref : Tryz.prog.cellsOf 50 = 2 := by kernel_rfl
theorem cz_Held : Tryz.prog.cellsOf 59 = 11 := by kernel_rfl
theorem cz_s_Held : Tryz.prog.cellsOf 22 = 1 := by kernel_rfl
theorem cz_Spot : Tryz.prog.cellsOf 52 = 4 := by kernel_rfl
theorem cz_s_Spot : Tryz.prog.cellsOf 23 = 1 := by kernel_rfl
theorem cz_Put : Tryz.prog.cellsOf 61 = 9 := by kernel_rfl
theorem cz_s_Put : Tryz.prog.cellsOf 24 = 1 := by kernel_rfl
theorem cz_Letter : Tryz.prog.cellsOf 63 = 13 := by kernel_rfl
theorem cz_s_Letter : Tryz.prog.cellsOf 25 = 1 := by kernel_rfl
theorem cz_Audit : Tryz.prog.cellsOf 65 = 11 := by kernel_rfl
theorem cz_s_Audit : Tryz.prog.cellsOf 26 = 1 := by kernel_rfl
theorem cz_Part : Tryz.prog.cellsOf 28 = 7 := by kernel_rfl
theorem by_string : 0 < Tryz.prog.bytesOf 9 := of_decide_eq_true (by kernel_rfl)
theorem by_Value : 0 < Tryz.prog.bytesOf 57 := of_decide_eq_true (by kernel_rfl)
theorem by_Held : 0 < Tryz.prog.bytesOf 59 := of_decide_eq_true (by kernel_rfl)
theorem by_Spot : 0 < Tryz.prog.bytesOf 52 := of_decide_eq_true (by kernel_rfl)
theorem by_Put : 0 < Tryz.prog.bytesOf 61 := of_decide_eq_true (by kernel_rfl)
theorem by_Letter : 0 < Tryz.prog.bytesOf 63 := of_decide_eq_true (by kernel_rfl)
theorem by_Audit : 0 < Tryz.prog.bytesOf 65 := of_decide_eq_true (by kernel_rfl)
section
variable {H : Type} {enc : TypeId × Value → H} {w : World} {base : Nat} {sp : Nat → Bool} {held : Bool}
theorem open_strs {n : Nat} {c : Value} {x : DataW H × List MemPlace} (h : DataW.trod enc Tryz.prog w base sp held n 42 [c] = some x) (hz : Sized Tryz.prog 42 x.1) : ∃ l, Strs w l c := by
  obtain ⟨p, len, cap, hc, hl, hr⟩ := open_sl Tryz.underlying42 cz_string (by omega) by_string h hz
  simp only [List.cons.injEq, and_true] at hc
  subst hc
  rcases hr with rfl | ⟨g, off, m, rfl, hg, _, hr⟩
  · exact ⟨[], by simp, by simp, .inl ⟨rfl, _, _, rfl⟩⟩
  · obtain ⟨l, h1, h2⟩ := list_of ([] : List UInt8) len (fun i s => s.length ≤ 140737488355328 ∧ w.cell? ⟨g, off + i, none⟩ = some (.string ⟨s.toArray⟩)) (fun i hi => by
      obtain ⟨ds, y, _, k2, k3, k4⟩ := hr i hi
      obtain ⟨s, rfl, hs⟩ := open_string Tryz.underlying9 k2 k3
      refine ⟨s, hs, ?_⟩
      have := k4 0 (by omega)
      simpa using this)
    refine ⟨l, by omega, fun s hs => ?_, .inr ⟨g, off, cap, by rw [h1], hg, fun i hi => (h2 i (by omega)).2⟩⟩
    obtain ⟨i, hi⟩ := List.getElem?_of_mem hs
    have hi' : i < l.length := (List.getElem?_eq_some_iff.1 hi).1
    have := (h2 i (by omega)).1
    rw [List.getD, hi] at this
    exact this
theorem open_val : ∀ (fuel : Nat) (cs : List Value) (x : DataW H × List MemPlace), DataW.trod enc Tryz.prog w base sp held fuel 57 cs = some x → Sized Tryz.prog 57 x.1 → ∃ v, ValAt w fuel v cs.toArray := by
  intro fuel
  induction fuel using Nat.strongRecOn with
  | ind fuel ih =>
  intro cs x h hz
  obtain ⟨n, rfl, hl, hf⟩ := open_st Tryz.underlying57 h hz
  rw [cz_Value] at hl
  obtain ⟨c0, c1, c2, c3, c4, c5, rfl⟩ := list6 hl
  obtain ⟨y0, h0, z0⟩ := hf 0 _ rfl
  replace z0 : Sized Tryz.prog 3 y0.1 := z0
  replace h0 : DataW.trod enc Tryz.prog w base sp held n 3 ((([c0, c1, c2, c3, c4, c5]).drop 0).take (Tryz.prog.cellsOf 3)) = some y0 := h0
  rw [cz_int] at h0
  replace h0 : DataW.trod enc Tryz.prog w base sp held n 3 [c0] = some y0 := h0
  obtain ⟨y1, h1, z1⟩ := hf 1 _ rfl
  replace z1 : Sized Tryz.prog 2 y1.1 := z1
  replace h1 : DataW.trod enc Tryz.prog w base sp held n 2 ((([c0, c1, c2, c3, c4, c5]).drop 1).take (Tryz.prog.cellsOf 2)) = some y1 := h1
  rw [cz_int64] at h1
  replace h1 : DataW.trod enc Tryz.prog w base sp held n 2 [c1] = some y1 := h1
  obtain ⟨y2, h2, z2⟩ := hf 2 _ rfl
  replace z2 : Sized Tryz.prog 54 y2.1 := z2
  replace h2 : DataW.trod enc Tryz.prog w base sp held n 54 ((([c0, c1, c2, c3, c4, c5]).drop 2).take (Tryz.prog.cellsOf 54)) = some y2 := h2
  rw [cz_float64] at h2
  replace h2 : DataW.trod enc Tryz.prog w base sp held n 54 [c2] = some y2 := h2
  obtain ⟨y3, h3, z3⟩ := hf 3 _ rfl
  replace z3 : Sized Tryz.prog 9 y3.1 := z3
  replace h3 : DataW.trod enc Tryz.prog w base sp held n 9 ((([c0, c1, c2, c3, c4, c5]).drop 3).take (Tryz.prog.cellsOf 9)) = some y3 := h3
  rw [cz_string] at h3
  replace h3 : DataW.trod enc Tryz.prog w base sp held n 9 [c3] = some y3 := h3
  obtain ⟨y4, h4, z4⟩ := hf 4 _ rfl
  replace z4 : Sized Tryz.prog 42 y4.1 := z4
  replace h4 : DataW.trod enc Tryz.prog w base sp held n 42 ((([c0, c1, c2, c3, c4, c5]).drop 4).take (Tryz.prog.cellsOf 42)) = some y4 := h4
  rw [cz_s_string] at h4
  replace h4 : DataW.trod enc Tryz.prog w base sp held n 42 [c4] = some y4 := h4
  obtain ⟨y5, h5, z5⟩ := hf 5 _ rfl
  replace z5 : Sized Tryz.prog 55 y5.1 := z5
  replace h5 : DataW.trod enc Tryz.prog w base sp held n 55 ((([c0, c1, c2, c3, c4, c5]).drop 5).take (Tryz.prog.cellsOf 55)) = some y5 := h5
  rw [cz_s_Value] at h5
  replace h5 : DataW.trod enc Tryz.prog w base sp held n 55 [c5] = some y5 := h5
  obtain ⟨k0, e0, b0⟩ := open_int Tryz.underlying3 h0
  simp only [List.cons.injEq, and_true] at e0
  subst e0
  obtain ⟨k1, e1, b1⟩ := open_int Tryz.underlying2 h1
  simp only [List.cons.injEq, and_true] at e1
  subst e1
  obtain ⟨k2, e2, b2⟩ := open_float64 Tryz.underlying54 h2
  simp only [List.cons.injEq, and_true] at e2
  subst e2
  obtain ⟨k3, e3, b3⟩ := open_string Tryz.underlying9 h3 z3
  simp only [List.cons.injEq, and_true] at e3
  subst e3
  obtain ⟨ns, hns⟩ := open_strs h4 z4
  obtain ⟨p, len, cap, hc, hll, hr⟩ := open_sl Tryz.underlying55 cz_Value (by omega) by_Value h5 z5
  simp only [List.cons.injEq, and_true] at hc
  subst hc
  rcases hr with rfl | ⟨g, off, m, rfl, hg, rfl, hr⟩
  · exact ⟨.mk k0 k1 k2 k3 ns [], _, _, rfl, b0, b1, b2, b3, hns, by simp [VT.items], .inl ⟨rfl, _, _, rfl⟩⟩
  · obtain ⟨l, l1, l2⟩ := list_of noVT len (fun i v => ∃ ds : Array Value, ValAt w (m + 1) v ds ∧ ∀ j, j < 6 → w.cell? ⟨g, off + i * 6 + j, none⟩ = ds[j]?) (fun i hi => by
      obtain ⟨ds, y, _, q2, q3, q4⟩ := hr i hi
      obtain ⟨v, hv⟩ := ih m (by omega) ds y q2 q3
      exact ⟨v, ds.toArray, hv.le (by omega), fun j hj => by rw [q4 j hj]; simp⟩)
    refine ⟨.mk k0 k1 k2 k3 ns l, _, _, rfl, b0, b1, b2, b3, hns, by show l.length ≤ _; omega, .inr ⟨g, off, cap, by show _ = Value.slice _ l.length cap; rw [l1], hg, fun i hi => l2 i (by have hi : i < l.length := hi; omega)⟩⟩
theorem open_ref {n : Nat} {a b : Value} {x : DataW H × List MemPlace} (h : DataW.trod enc Tryz.prog w base sp held n 50 [a, b] = some x) (hz : Sized Tryz.prog 50 x.1) : ∃ i j : Int, a = .int .i64 i ∧ b = .int .i64 j := by
  obtain ⟨n, rfl, hl, hf⟩ := open_st Tryz.underlying50 h hz
  obtain ⟨c0, c1, hc⟩ : ∃ c0 c1, [c0, c1] = [a, b] := ⟨a, b, rfl⟩
  simp only [List.cons.injEq, and_true] at hc
  obtain ⟨rfl, rfl⟩ := hc
  obtain ⟨y0, h0, z0⟩ := hf 0 _ rfl
  replace z0 : Sized Tryz.prog 3 y0.1 := z0
  replace h0 : DataW.trod enc Tryz.prog w base sp held n 3 ((([c0, c1]).drop 0).take (Tryz.prog.cellsOf 3)) = some y0 := h0
  rw [cz_int] at h0
  replace h0 : DataW.trod enc Tryz.prog w base sp held n 3 [c0] = some y0 := h0
  obtain ⟨y1, h1, z1⟩ := hf 1 _ rfl
  replace z1 : Sized Tryz.prog 3 y1.1 := z1
  replace h1 : DataW.trod enc Tryz.prog w base sp held n 3 ((([c0, c1]).drop 1).take (Tryz.prog.cellsOf 3)) = some y1 := h1
  rw [cz_int] at h1
  replace h1 : DataW.trod enc Tryz.prog w base sp held n 3 [c1] = some y1 := h1
  obtain ⟨k0, e0, b0⟩ := open_int Tryz.underlying3 h0
  simp only [List.cons.injEq, and_true] at e0
  subst e0
  obtain ⟨k1, e1, b1⟩ := open_int Tryz.underlying3 h1
  simp only [List.cons.injEq, and_true] at e1
  subst e1
  exact ⟨_, _, rfl, rfl⟩
theorem ItAt.le {d e k m : Nat} {x : It} {ds : Array Value} (h : ItAt w d k m x ds) (hd : d ≤ e) : ItAt w e k m x ds := by
  obtain ⟨h1, h2, css, h3, h4, h5⟩ := h
  exact ⟨h1, h2, css, h3, fun i hi => (h4 i hi).le hd, h5⟩
theorem SlAt.le {d e sz k m : Nat} {v : Value} {l : List It} (h : SlAt w d sz k m v l) (hd : d ≤ e) : SlAt w e sz k m v l := by
  obtain ⟨sp, sc, h1, h2, h3⟩ := h
  refine ⟨sp, sc, h1, h2, fun i hi => ?_⟩
  obtain ⟨g, off, h4, h5, ds, h6, h7⟩ := h3 i hi
  exact ⟨g, off, h4, h5, ds, h6.le hd, h7⟩
theorem open_it_waits {fuel : Nat} {cs : List Value} {x : DataW H × List MemPlace} (h : DataW.trod enc Tryz.prog w base sp held fuel 59 cs = some x) (hz : Sized Tryz.prog 59 x.1) : ∃ it, ItAt w fuel 5 1 it cs.toArray := by
  obtain ⟨n, rfl, hl, hf⟩ := open_st Tryz.underlying59 h hz
  rw [cz_Held] at hl
  obtain ⟨c0, c1, c2, c3, c4, c5, c6, c7, c8, c9, c10, rfl⟩ := list11 hl
  obtain ⟨y0, h0, z0⟩ := hf 0 _ rfl
  replace z0 : Sized Tryz.prog 3 y0.1 := z0
  replace h0 : DataW.trod enc Tryz.prog w base sp held n 3 ((([c0, c1, c2, c3, c4, c5, c6, c7, c8, c9, c10]).drop 0).take (Tryz.prog.cellsOf 3)) = some y0 := h0
  rw [cz_int] at h0
  replace h0 : DataW.trod enc Tryz.prog w base sp held n 3 [c0] = some y0 := h0
  obtain ⟨y1, h1, z1⟩ := hf 1 _ rfl
  replace z1 : Sized Tryz.prog 3 y1.1 := z1
  replace h1 : DataW.trod enc Tryz.prog w base sp held n 3 ((([c0, c1, c2, c3, c4, c5, c6, c7, c8, c9, c10]).drop 1).take (Tryz.prog.cellsOf 3)) = some y1 := h1
  rw [cz_int] at h1
  replace h1 : DataW.trod enc Tryz.prog w base sp held n 3 [c1] = some y1 := h1
  obtain ⟨y2, h2, z2⟩ := hf 2 _ rfl
  replace z2 : Sized Tryz.prog 3 y2.1 := z2
  replace h2 : DataW.trod enc Tryz.prog w base sp held n 3 ((([c0, c1, c2, c3, c4, c5, c6, c7, c8, c9, c10]).drop 2).take (Tryz.prog.cellsOf 3)) = some y2 := h2
  rw [cz_int] at h2
  replace h2 : DataW.trod enc Tryz.prog w base sp held n 3 [c2] = some y2 := h2
  obtain ⟨y3, h3, z3⟩ := hf 3 _ rfl
  replace z3 : Sized Tryz.prog 50 y3.1 := z3
  replace h3 : DataW.trod enc Tryz.prog w base sp held n 50 ((([c0, c1, c2, c3, c4, c5, c6, c7, c8, c9, c10]).drop 3).take (Tryz.prog.cellsOf 50)) = some y3 := h3
  rw [cz_Ref] at h3
  replace h3 : DataW.trod enc Tryz.prog w base sp held n 50 [c3, c4] = some y3 := h3
  obtain ⟨y4, h4, z4⟩ := hf 4 _ rfl
  replace z4 : Sized Tryz.prog 57 y4.1 := z4
  replace h4 : DataW.trod enc Tryz.prog w base sp held n 57 ((([c0, c1, c2, c3, c4, c5, c6, c7, c8, c9, c10]).drop 5).take (Tryz.prog.cellsOf 57)) = some y4 := h4
  rw [cz_Value] at h4
  replace h4 : DataW.trod enc Tryz.prog w base sp held n 57 [c5, c6, c7, c8, c9, c10] = some y4 := h4
  obtain ⟨k0, e0, b0⟩ := open_int Tryz.underlying3 h0
  simp only [List.cons.injEq, and_true] at e0
  subst e0
  obtain ⟨k1, e1, b1⟩ := open_int Tryz.underlying3 h1
  simp only [List.cons.injEq, and_true] at e1
  subst e1
  obtain ⟨k2, e2, b2⟩ := open_int Tryz.underlying3 h2
  simp only [List.cons.injEq, and_true] at e2
  subst e2
  obtain ⟨k3, k4, rfl, rfl⟩ := open_ref h3 z3
  obtain ⟨v4, g4⟩ := open_val n _ y4 h4 z4
  exact ⟨([k0, k1, k2, k3, k4], [v4]), rfl, rfl, [#[c5, c6, c7, c8, c9, c10]], rfl, fun i hi => by match i, hi with | 0, _ => exact g4.le (by omega), rfl⟩
theorem open_waits {n : Nat} {c : Value} {x : DataW H × List MemPlace} (h : DataW.trod enc Tryz.prog w base sp held n 22 [c] = some x) (hz : Sized Tryz.prog 22 x.1) : ∃ l, SlAt w n 11 5 1 c l := by
  obtain ⟨p, len, cap, hc, hl, hr⟩ := open_sl Tryz.underlying22 cz_Held (by omega) by_Held h hz
  simp only [List.cons.injEq, and_true] at hc
  subst hc
  rcases hr with rfl | ⟨g, off, m, rfl, hg, rfl, hr⟩
  · exact ⟨[], _, _, rfl, by simp, fun i hi => absurd hi (Nat.not_lt_zero i)⟩
  · obtain ⟨l, h1, h2⟩ := list_of (([], []) : It) len (fun i it => ∃ ds, ItAt w (m + 1) 5 1 it ds ∧ ∀ j, j < 11 → w.cell? ⟨g, off + i * 11 + j, none⟩ = ds[j]?) (fun i hi => by
      obtain ⟨ds, y, _, q2, q3, q4⟩ := hr i hi
      obtain ⟨v, hv⟩ := open_it_waits q2 q3
      exact ⟨v, ds.toArray, hv.le (by omega), fun j hj => by rw [q4 j hj]; simp⟩)
    exact ⟨l, _, _, by rw [h1], by omega, fun i hi => ⟨g, off, rfl, hg, h2 i (by omega)⟩⟩
theorem open_it_spots {fuel : Nat} {cs : List Value} {x : DataW H × List MemPlace} (h : DataW.trod enc Tryz.prog w base sp held fuel 52 cs = some x) (hz : Sized Tryz.prog 52 x.1) : ∃ it, ItAt w fuel 4 0 it cs.toArray := by
  obtain ⟨n, rfl, hl, hf⟩ := open_st Tryz.underlying52 h hz
  rw [cz_Spot] at hl
  obtain ⟨c0, c1, c2, c3, rfl⟩ := list4 hl
  obtain ⟨y0, h0, z0⟩ := hf 0 _ rfl
  replace z0 : Sized Tryz.prog 50 y0.1 := z0
  replace h0 : DataW.trod enc Tryz.prog w base sp held n 50 ((([c0, c1, c2, c3]).drop 0).take (Tryz.prog.cellsOf 50)) = some y0 := h0
  rw [cz_Ref] at h0
  replace h0 : DataW.trod enc Tryz.prog w base sp held n 50 [c0, c1] = some y0 := h0
  obtain ⟨y1, h1, z1⟩ := hf 1 _ rfl
  replace z1 : Sized Tryz.prog 3 y1.1 := z1
  replace h1 : DataW.trod enc Tryz.prog w base sp held n 3 ((([c0, c1, c2, c3]).drop 2).take (Tryz.prog.cellsOf 3)) = some y1 := h1
  rw [cz_int] at h1
  replace h1 : DataW.trod enc Tryz.prog w base sp held n 3 [c2] = some y1 := h1
  obtain ⟨y2, h2, z2⟩ := hf 2 _ rfl
  replace z2 : Sized Tryz.prog 3 y2.1 := z2
  replace h2 : DataW.trod enc Tryz.prog w base sp held n 3 ((([c0, c1, c2, c3]).drop 3).take (Tryz.prog.cellsOf 3)) = some y2 := h2
  rw [cz_int] at h2
  replace h2 : DataW.trod enc Tryz.prog w base sp held n 3 [c3] = some y2 := h2
  obtain ⟨k0, k1, rfl, rfl⟩ := open_ref h0 z0
  obtain ⟨k2, e2, b2⟩ := open_int Tryz.underlying3 h1
  simp only [List.cons.injEq, and_true] at e2
  subst e2
  obtain ⟨k3, e3, b3⟩ := open_int Tryz.underlying3 h2
  simp only [List.cons.injEq, and_true] at e3
  subst e3
  exact ⟨([k0, k1, k2, k3], []), rfl, rfl, [], rfl, fun i hi => absurd hi (Nat.not_lt_zero i), rfl⟩
theorem open_spots {n : Nat} {c : Value} {x : DataW H × List MemPlace} (h : DataW.trod enc Tryz.prog w base sp held n 23 [c] = some x) (hz : Sized Tryz.prog 23 x.1) : ∃ l, SlAt w n 4 4 0 c l := by
  obtain ⟨p, len, cap, hc, hl, hr⟩ := open_sl Tryz.underlying23 cz_Spot (by omega) by_Spot h hz
  simp only [List.cons.injEq, and_true] at hc
  subst hc
  rcases hr with rfl | ⟨g, off, m, rfl, hg, rfl, hr⟩
  · exact ⟨[], _, _, rfl, by simp, fun i hi => absurd hi (Nat.not_lt_zero i)⟩
  · obtain ⟨l, h1, h2⟩ := list_of (([], []) : It) len (fun i it => ∃ ds, ItAt w (m + 1) 4 0 it ds ∧ ∀ j, j < 4 → w.cell? ⟨g, off + i * 4 + j, none⟩ = ds[j]?) (fun i hi => by
      obtain ⟨ds, y, _, q2, q3, q4⟩ := hr i hi
      obtain ⟨v, hv⟩ := open_it_spots q2 q3
      exact ⟨v, ds.toArray, hv.le (by omega), fun j hj => by rw [q4 j hj]; simp⟩)
    exact ⟨l, _, _, by rw [h1], by omega, fun i hi => ⟨g, off, rfl, hg, h2 i (by omega)⟩⟩
theorem open_it_puts {fuel : Nat} {cs : List Value} {x : DataW H × List MemPlace} (h : DataW.trod enc Tryz.prog w base sp held fuel 61 cs = some x) (hz : Sized Tryz.prog 61 x.1) : ∃ it, ItAt w fuel 3 1 it cs.toArray := by
  obtain ⟨n, rfl, hl, hf⟩ := open_st Tryz.underlying61 h hz
  rw [cz_Put] at hl
  obtain ⟨c0, c1, c2, c3, c4, c5, c6, c7, c8, rfl⟩ := list9 hl
  obtain ⟨y0, h0, z0⟩ := hf 0 _ rfl
  replace z0 : Sized Tryz.prog 50 y0.1 := z0
  replace h0 : DataW.trod enc Tryz.prog w base sp held n 50 ((([c0, c1, c2, c3, c4, c5, c6, c7, c8]).drop 0).take (Tryz.prog.cellsOf 50)) = some y0 := h0
  rw [cz_Ref] at h0
  replace h0 : DataW.trod enc Tryz.prog w base sp held n 50 [c0, c1] = some y0 := h0
  obtain ⟨y1, h1, z1⟩ := hf 1 _ rfl
  replace z1 : Sized Tryz.prog 3 y1.1 := z1
  replace h1 : DataW.trod enc Tryz.prog w base sp held n 3 ((([c0, c1, c2, c3, c4, c5, c6, c7, c8]).drop 2).take (Tryz.prog.cellsOf 3)) = some y1 := h1
  rw [cz_int] at h1
  replace h1 : DataW.trod enc Tryz.prog w base sp held n 3 [c2] = some y1 := h1
  obtain ⟨y2, h2, z2⟩ := hf 2 _ rfl
  replace z2 : Sized Tryz.prog 57 y2.1 := z2
  replace h2 : DataW.trod enc Tryz.prog w base sp held n 57 ((([c0, c1, c2, c3, c4, c5, c6, c7, c8]).drop 3).take (Tryz.prog.cellsOf 57)) = some y2 := h2
  rw [cz_Value] at h2
  replace h2 : DataW.trod enc Tryz.prog w base sp held n 57 [c3, c4, c5, c6, c7, c8] = some y2 := h2
  obtain ⟨k0, k1, rfl, rfl⟩ := open_ref h0 z0
  obtain ⟨k2, e2, b2⟩ := open_int Tryz.underlying3 h1
  simp only [List.cons.injEq, and_true] at e2
  subst e2
  obtain ⟨v2, g2⟩ := open_val n _ y2 h2 z2
  exact ⟨([k0, k1, k2], [v2]), rfl, rfl, [#[c3, c4, c5, c6, c7, c8]], rfl, fun i hi => by match i, hi with | 0, _ => exact g2.le (by omega), rfl⟩
theorem open_puts {n : Nat} {c : Value} {x : DataW H × List MemPlace} (h : DataW.trod enc Tryz.prog w base sp held n 24 [c] = some x) (hz : Sized Tryz.prog 24 x.1) : ∃ l, SlAt w n 9 3 1 c l := by
  obtain ⟨p, len, cap, hc, hl, hr⟩ := open_sl Tryz.underlying24 cz_Put (by omega) by_Put h hz
  simp only [List.cons.injEq, and_true] at hc
  subst hc
  rcases hr with rfl | ⟨g, off, m, rfl, hg, rfl, hr⟩
  · exact ⟨[], _, _, rfl, by simp, fun i hi => absurd hi (Nat.not_lt_zero i)⟩
  · obtain ⟨l, h1, h2⟩ := list_of (([], []) : It) len (fun i it => ∃ ds, ItAt w (m + 1) 3 1 it ds ∧ ∀ j, j < 9 → w.cell? ⟨g, off + i * 9 + j, none⟩ = ds[j]?) (fun i hi => by
      obtain ⟨ds, y, _, q2, q3, q4⟩ := hr i hi
      obtain ⟨v, hv⟩ := open_it_puts q2 q3
      exact ⟨v, ds.toArray, hv.le (by omega), fun j hj => by rw [q4 j hj]; simp⟩)
    exact ⟨l, _, _, by rw [h1], by omega, fun i hi => ⟨g, off, rfl, hg, h2 i (by omega)⟩⟩
theorem open_it_letters {fuel : Nat} {cs : List Value} {x : DataW H × List MemPlace} (h : DataW.trod enc Tryz.prog w base sp held fuel 63 cs = some x) (hz : Sized Tryz.prog 63 x.1) : ∃ it, ItAt w fuel 1 2 it cs.toArray := by
  obtain ⟨n, rfl, hl, hf⟩ := open_st Tryz.underlying63 h hz
  rw [cz_Letter] at hl
  obtain ⟨c0, c1, c2, c3, c4, c5, c6, c7, c8, c9, c10, c11, c12, rfl⟩ := list13 hl
  obtain ⟨y0, h0, z0⟩ := hf 0 _ rfl
  replace z0 : Sized Tryz.prog 3 y0.1 := z0
  replace h0 : DataW.trod enc Tryz.prog w base sp held n 3 ((([c0, c1, c2, c3, c4, c5, c6, c7, c8, c9, c10, c11, c12]).drop 0).take (Tryz.prog.cellsOf 3)) = some y0 := h0
  rw [cz_int] at h0
  replace h0 : DataW.trod enc Tryz.prog w base sp held n 3 [c0] = some y0 := h0
  obtain ⟨y1, h1, z1⟩ := hf 1 _ rfl
  replace z1 : Sized Tryz.prog 57 y1.1 := z1
  replace h1 : DataW.trod enc Tryz.prog w base sp held n 57 ((([c0, c1, c2, c3, c4, c5, c6, c7, c8, c9, c10, c11, c12]).drop 1).take (Tryz.prog.cellsOf 57)) = some y1 := h1
  rw [cz_Value] at h1
  replace h1 : DataW.trod enc Tryz.prog w base sp held n 57 [c1, c2, c3, c4, c5, c6] = some y1 := h1
  obtain ⟨y2, h2, z2⟩ := hf 2 _ rfl
  replace z2 : Sized Tryz.prog 57 y2.1 := z2
  replace h2 : DataW.trod enc Tryz.prog w base sp held n 57 ((([c0, c1, c2, c3, c4, c5, c6, c7, c8, c9, c10, c11, c12]).drop 7).take (Tryz.prog.cellsOf 57)) = some y2 := h2
  rw [cz_Value] at h2
  replace h2 : DataW.trod enc Tryz.prog w base sp held n 57 [c7, c8, c9, c10, c11, c12] = some y2 := h2
  obtain ⟨k0, e0, b0⟩ := open_int Tryz.underlying3 h0
  simp only [List.cons.injEq, and_true] at e0
  subst e0
  obtain ⟨v1, g1⟩ := open_val n _ y1 h1 z1
  obtain ⟨v2, g2⟩ := open_val n _ y2 h2 z2
  exact ⟨([k0], [v1, v2]), rfl, rfl, [#[c1, c2, c3, c4, c5, c6], #[c7, c8, c9, c10, c11, c12]], rfl, fun i hi => by match i, hi with | 0, _ => exact g1.le (by omega) | 1, _ => exact g2.le (by omega), rfl⟩
theorem open_letters {n : Nat} {c : Value} {x : DataW H × List MemPlace} (h : DataW.trod enc Tryz.prog w base sp held n 25 [c] = some x) (hz : Sized Tryz.prog 25 x.1) : ∃ l, SlAt w n 13 1 2 c l := by
  obtain ⟨p, len, cap, hc, hl, hr⟩ := open_sl Tryz.underlying25 cz_Letter (by omega) by_Letter h hz
  simp only [List.cons.injEq, and_true] at hc
  subst hc
  rcases hr with rfl | ⟨g, off, m, rfl, hg, rfl, hr⟩
  · exact ⟨[], _, _, rfl, by simp, fun i hi => absurd hi (Nat.not_lt_zero i)⟩
  · obtain ⟨l, h1, h2⟩ := list_of (([], []) : It) len (fun i it => ∃ ds, ItAt w (m + 1) 1 2 it ds ∧ ∀ j, j < 13 → w.cell? ⟨g, off + i * 13 + j, none⟩ = ds[j]?) (fun i hi => by
      obtain ⟨ds, y, _, q2, q3, q4⟩ := hr i hi
      obtain ⟨v, hv⟩ := open_it_letters q2 q3
      exact ⟨v, ds.toArray, hv.le (by omega), fun j hj => by rw [q4 j hj]; simp⟩)
    exact ⟨l, _, _, by rw [h1], by omega, fun i hi => ⟨g, off, rfl, hg, h2 i (by omega)⟩⟩
theorem open_it_audits {fuel : Nat} {cs : List Value} {x : DataW H × List MemPlace} (h : DataW.trod enc Tryz.prog w base sp held fuel 65 cs = some x) (hz : Sized Tryz.prog 65 x.1) : ∃ it, ItAt w fuel 5 1 it cs.toArray := by
  obtain ⟨n, rfl, hl, hf⟩ := open_st Tryz.underlying65 h hz
  rw [cz_Audit] at hl
  obtain ⟨c0, c1, c2, c3, c4, c5, c6, c7, c8, c9, c10, rfl⟩ := list11 hl
  obtain ⟨y0, h0, z0⟩ := hf 0 _ rfl
  replace z0 : Sized Tryz.prog 50 y0.1 := z0
  replace h0 : DataW.trod enc Tryz.prog w base sp held n 50 ((([c0, c1, c2, c3, c4, c5, c6, c7, c8, c9, c10]).drop 0).take (Tryz.prog.cellsOf 50)) = some y0 := h0
  rw [cz_Ref] at h0
  replace h0 : DataW.trod enc Tryz.prog w base sp held n 50 [c0, c1] = some y0 := h0
  obtain ⟨y1, h1, z1⟩ := hf 1 _ rfl
  replace z1 : Sized Tryz.prog 3 y1.1 := z1
  replace h1 : DataW.trod enc Tryz.prog w base sp held n 3 ((([c0, c1, c2, c3, c4, c5, c6, c7, c8, c9, c10]).drop 2).take (Tryz.prog.cellsOf 3)) = some y1 := h1
  rw [cz_int] at h1
  replace h1 : DataW.trod enc Tryz.prog w base sp held n 3 [c2] = some y1 := h1
  obtain ⟨y2, h2, z2⟩ := hf 2 _ rfl
  replace z2 : Sized Tryz.prog 3 y2.1 := z2
  replace h2 : DataW.trod enc Tryz.prog w base sp held n 3 ((([c0, c1, c2, c3, c4, c5, c6, c7, c8, c9, c10]).drop 3).take (Tryz.prog.cellsOf 3)) = some y2 := h2
  rw [cz_int] at h2
  replace h2 : DataW.trod enc Tryz.prog w base sp held n 3 [c3] = some y2 := h2
  obtain ⟨y3, h3, z3⟩ := hf 3 _ rfl
  replace z3 : Sized Tryz.prog 3 y3.1 := z3
  replace h3 : DataW.trod enc Tryz.prog w base sp held n 3 ((([c0, c1, c2, c3, c4, c5, c6, c7, c8, c9, c10]).drop 4).take (Tryz.prog.cellsOf 3)) = some y3 := h3
  rw [cz_int] at h3
  replace h3 : DataW.trod enc Tryz.prog w base sp held n 3 [c4] = some y3 := h3
  obtain ⟨y4, h4, z4⟩ := hf 4 _ rfl
  replace z4 : Sized Tryz.prog 57 y4.1 := z4
  replace h4 : DataW.trod enc Tryz.prog w base sp held n 57 ((([c0, c1, c2, c3, c4, c5, c6, c7, c8, c9, c10]).drop 5).take (Tryz.prog.cellsOf 57)) = some y4 := h4
  rw [cz_Value] at h4
  replace h4 : DataW.trod enc Tryz.prog w base sp held n 57 [c5, c6, c7, c8, c9, c10] = some y4 := h4
  obtain ⟨k0, k1, rfl, rfl⟩ := open_ref h0 z0
  obtain ⟨k2, e2, b2⟩ := open_int Tryz.underlying3 h1
  simp only [List.cons.injEq, and_true] at e2
  subst e2
  obtain ⟨k3, e3, b3⟩ := open_int Tryz.underlying3 h2
  simp only [List.cons.injEq, and_true] at e3
  subst e3
  obtain ⟨k4, e4, b4⟩ := open_int Tryz.underlying3 h3
  simp only [List.cons.injEq, and_true] at e4
  subst e4
  obtain ⟨v4, g4⟩ := open_val n _ y4 h4 z4
  exact ⟨([k0, k1, k2, k3, k4], [v4]), rfl, rfl, [#[c5, c6, c7, c8, c9, c10]], rfl, fun i hi => by match i, hi with | 0, _ => exact g4.le (by omega), rfl⟩
theorem open_audits {n : Nat} {c : Value} {x : DataW H × List MemPlace} (h : DataW.trod enc Tryz.prog w base sp held n 26 [c] = some x) (hz : Sized Tryz.prog 26 x.1) : ∃ l, SlAt w n 11 5 1 c l := by
  obtain ⟨p, len, cap, hc, hl, hr⟩ := open_sl Tryz.underlying26 cz_Audit (by omega) by_Audit h hz
  simp only [List.cons.injEq, and_true] at hc
  subst hc
  rcases hr with rfl | ⟨g, off, m, rfl, hg, rfl, hr⟩
  · exact ⟨[], _, _, rfl, by simp, fun i hi => absurd hi (Nat.not_lt_zero i)⟩
  · obtain ⟨l, h1, h2⟩ := list_of (([], []) : It) len (fun i it => ∃ ds, ItAt w (m + 1) 5 1 it ds ∧ ∀ j, j < 11 → w.cell? ⟨g, off + i * 11 + j, none⟩ = ds[j]?) (fun i hi => by
      obtain ⟨ds, y, _, q2, q3, q4⟩ := hr i hi
      obtain ⟨v, hv⟩ := open_it_audits q2 q3
      exact ⟨v, ds.toArray, hv.le (by omega), fun j hj => by rw [q4 j hj]; simp⟩)
    exact ⟨l, _, _, by rw [h1], by omega, fun i hi => ⟨g, off, rfl, hg, h2 i (by omega)⟩⟩
theorem open_part {fuel : Nat} {cs : List Value} {x : DataW H × List MemPlace} (h : DataW.trod enc Tryz.prog w base sp held fuel 28 cs = some x) (hz : Sized Tryz.prog 28 x.1) : ∃ p, PartAt w fuel p cs.toArray := by
  obtain ⟨n, rfl, hl, hf⟩ := open_st Tryz.underlying28 h hz
  rw [cz_Part] at hl
  obtain ⟨c0, c1, c2, c3, c4, c5, c6, rfl⟩ := list7 hl
  obtain ⟨y0, h0, z0⟩ := hf 0 _ rfl
  replace z0 : Sized Tryz.prog 3 y0.1 := z0
  replace h0 : DataW.trod enc Tryz.prog w base sp held n 3 ((([c0, c1, c2, c3, c4, c5, c6]).drop 0).take (Tryz.prog.cellsOf 3)) = some y0 := h0
  rw [cz_int] at h0
  replace h0 : DataW.trod enc Tryz.prog w base sp held n 3 [c0] = some y0 := h0
  obtain ⟨y1, h1, z1⟩ := hf 1 _ rfl
  replace z1 : Sized Tryz.prog 3 y1.1 := z1
  replace h1 : DataW.trod enc Tryz.prog w base sp held n 3 ((([c0, c1, c2, c3, c4, c5, c6]).drop 1).take (Tryz.prog.cellsOf 3)) = some y1 := h1
  rw [cz_int] at h1
  replace h1 : DataW.trod enc Tryz.prog w base sp held n 3 [c1] = some y1 := h1
  obtain ⟨y2, h2, z2⟩ := hf 2 _ rfl
  replace z2 : Sized Tryz.prog 22 y2.1 := z2
  replace h2 : DataW.trod enc Tryz.prog w base sp held n 22 ((([c0, c1, c2, c3, c4, c5, c6]).drop 2).take (Tryz.prog.cellsOf 22)) = some y2 := h2
  rw [cz_s_Held] at h2
  replace h2 : DataW.trod enc Tryz.prog w base sp held n 22 [c2] = some y2 := h2
  obtain ⟨y3, h3, z3⟩ := hf 3 _ rfl
  replace z3 : Sized Tryz.prog 23 y3.1 := z3
  replace h3 : DataW.trod enc Tryz.prog w base sp held n 23 ((([c0, c1, c2, c3, c4, c5, c6]).drop 3).take (Tryz.prog.cellsOf 23)) = some y3 := h3
  rw [cz_s_Spot] at h3
  replace h3 : DataW.trod enc Tryz.prog w base sp held n 23 [c3] = some y3 := h3
  obtain ⟨y4, h4, z4⟩ := hf 4 _ rfl
  replace z4 : Sized Tryz.prog 24 y4.1 := z4
  replace h4 : DataW.trod enc Tryz.prog w base sp held n 24 ((([c0, c1, c2, c3, c4, c5, c6]).drop 4).take (Tryz.prog.cellsOf 24)) = some y4 := h4
  rw [cz_s_Put] at h4
  replace h4 : DataW.trod enc Tryz.prog w base sp held n 24 [c4] = some y4 := h4
  obtain ⟨y5, h5, z5⟩ := hf 5 _ rfl
  replace z5 : Sized Tryz.prog 25 y5.1 := z5
  replace h5 : DataW.trod enc Tryz.prog w base sp held n 25 ((([c0, c1, c2, c3, c4, c5, c6]).drop 5).take (Tryz.prog.cellsOf 25)) = some y5 := h5
  rw [cz_s_Letter] at h5
  replace h5 : DataW.trod enc Tryz.prog w base sp held n 25 [c5] = some y5 := h5
  obtain ⟨y6, h6, z6⟩ := hf 6 _ rfl
  replace z6 : Sized Tryz.prog 26 y6.1 := z6
  replace h6 : DataW.trod enc Tryz.prog w base sp held n 26 ((([c0, c1, c2, c3, c4, c5, c6]).drop 6).take (Tryz.prog.cellsOf 26)) = some y6 := h6
  rw [cz_s_Audit] at h6
  replace h6 : DataW.trod enc Tryz.prog w base sp held n 26 [c6] = some y6 := h6
  obtain ⟨k0, e0, b0⟩ := open_int Tryz.underlying3 h0
  simp only [List.cons.injEq, and_true] at e0
  subst e0
  obtain ⟨k1, e1, b1⟩ := open_int Tryz.underlying3 h1
  simp only [List.cons.injEq, and_true] at e1
  subst e1
  obtain ⟨l0, s0⟩ := open_waits h2 z2
  obtain ⟨l1, s1⟩ := open_spots h3 z3
  obtain ⟨l2, s2⟩ := open_puts h4 z4
  obtain ⟨l3, s3⟩ := open_letters h5 z5
  obtain ⟨l4, s4⟩ := open_audits h6 z6
  exact ⟨⟨k0, k1, l0, l1, l2, l3, l4⟩, _, _, _, _, _, rfl, s0.le (by omega), s1.le (by omega), s2.le (by omega), s3.le (by omega), s4.le (by omega)⟩
end
end
end Go.Proofs.YtnaamiecljinnaaGreat
