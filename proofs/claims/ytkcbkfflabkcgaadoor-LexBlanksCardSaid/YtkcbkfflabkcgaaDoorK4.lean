/-
  The walk of the lexer's sign.
-/
import Derived.Test.YtkcbkfflabkcgaaDoorK3
import Derived.Deep.RegionHeld3
namespace Go.Proofs.YtkcbkfflabkcgaaDoor
open Go.RowKit

theorem enters_prefix : ∀ args w, (callFunc 35 args).run Tryd.prog w = .ok (.enter 35 args) w := enters_of Tryd.func35 (by kernel_rfl) rfl
theorem drop_bytes (s : ByteArray) (a : Nat) : (s.extract a s.size).data.toList = s.data.toList.drop a := by
  simp only [ByteArray.data_extract, Array.toList_extract, List.extract_eq_take_drop]
  exact List.take_of_length_le (by rw [List.length_drop]; simp)
def nOf (l : List UInt8) (a i : Nat) : Nat := if (twos.take i).any (fun p => Lib.hasPrefix (l.drop a) p) then 2 else 1
theorem cell_kept {w : World} {b t i j : Nat} {x : Value} (h : b ≠ t) : (w.setCell ⟨t, i, none⟩ x).cell? ⟨b, j, none⟩ = w.cell? ⟨b, j, none⟩ := by
  have := Below.heap_setCell w ⟨t, i, none⟩ x b h
  unfold World.cell?
  simp only [this]
theorem enters_index : ∀ args w, (callFunc 36 args).run Tryd.prog w = .ok (.enter 36 args) w := enters_of Tryd.func36 (by kernel_rfl) rfl
theorem index_neg : ∀ (l : List UInt8) (c : UInt8), decide (Lib.indexByte l c < 0) = !l.contains c
  | [], c => rfl
  | x :: l, c => by
    have ih := index_neg l c
    have hge := Lib.indexByte_ge l c
    show decide ((if x == c then 0 else if Lib.indexByte l c == -1 then -1 else Lib.indexByte l c + 1) < 0) = !((x :: l).contains c)
    rw [List.contains_cons]
    by_cases h : x = c
    · subst h; simp
    · have h1 : (x == c) = false := beq_eq_false_iff_ne.2 h
      have h2 : (c == x) = false := beq_eq_false_iff_ne.2 (fun e => h e.symm)
      rw [h1, h2, Bool.false_or, ← ih]
      by_cases g : Lib.indexByte l c = -1
      · rw [g]; rfl
      · have g1 : (Lib.indexByte l c == -1) = false := beq_eq_false_iff_ne.2 g
        rw [g1]
        simp only [Bool.false_eq_true, if_false]
        apply decide_eq_decide.2
        omega
theorem sign_ix (c : UInt8) : decide (Lib.indexByte ones c < 0) = !ones.contains c := index_neg ones c
theorem part_one {l : List UInt8} {a : Nat} (h : a < l.length) : part l a (a + 1) = [l.getD a 0] := by
  unfold part
  have e : l.getD a 0 = l[a] := by simp [List.getD, h]
  rw [show a + 1 - a = 1 by omega, List.drop_eq_getElem_cons h, e]
  rfl
theorem nOf_zero (l : List UInt8) (a : Nat) : nOf l a 0 = 1 := rfl
theorem Fr.alloc {l : List Nat} {a w : World} (h : Fr l a w) (o : Obj) : Fr l a (w.alloc o) :=
  h.trans ⟨rfl, rfl, rfl, by simp, fun k hk _ => Lib.alloc_old w o k hk⟩
theorem nOf_step (l : List UInt8) (a i : Nat) (h : i < 4) : nOf l a (i + 1) = if Lib.hasPrefix (l.drop a) (twos.getD i []) then 2 else nOf l a i := by
  unfold nOf
  have ht : twos.take (i + 1) = twos.take i ++ [twos.getD i []] := by
    have : i = 0 ∨ i = 1 ∨ i = 2 ∨ i = 3 := by omega
    rcases this with rfl | rfl | rfl | rfl <;> rfl
  rw [ht, List.any_append]
  cases h1 : (twos.take i).any (fun p => Lib.hasPrefix (l.drop a) p) <;> cases h2 : Lib.hasPrefix (l.drop a) (twos.getD i []) <;> simp only [List.any_cons, List.any_nil, h2, Bool.or_false, Bool.or_true, if_true, Bool.false_eq_true, if_false]

theorem two_start (d : List UInt8) (x y : UInt8) : Lib.hasPrefix d [x, y] = (d.take 2 == [x, y]) := by
  unfold Lib.hasPrefix
  rcases d with _ | ⟨u, _ | ⟨v, r⟩⟩
  · rfl
  · have h1 : List.isPrefixOf [x, y] [u] = false := by show (x == u && false) = false; exact Bool.and_false _
    have h2 : ([u].take 2 == [x, y]) = false := by
      rw [beq_eq_false_iff_ne]; intro e; cases e
    rw [h1, h2]
  · show (x == u && (y == v && true)) = (u == x && (v == y && true))
    rw [Bool.beq_comm (a := x), Bool.beq_comm (a := y)]
theorem nOf_all (l : List UInt8) (a : Nat) : nOf l a 4 = if twos.contains (part l a (a + 2)) then 2 else 1 := by
  unfold nOf part
  rw [show a + 2 - a = 2 by omega]
  have ht : (twos.take 4).any (fun p => Lib.hasPrefix (l.drop a) p) = twos.contains ((l.drop a).take 2) := by
    show (Lib.hasPrefix (l.drop a) [61, 61] || (Lib.hasPrefix (l.drop a) [60, 61] || (Lib.hasPrefix (l.drop a) [38, 38] || (Lib.hasPrefix (l.drop a) [124, 124] || false)))) = (((l.drop a).take 2 == [61, 61]) || (((l.drop a).take 2 == [60, 61]) || (((l.drop a).take 2 == [38, 38]) || (((l.drop a).take 2 == [124, 124]) || false))))
    rw [two_start, two_start, two_start, two_start]
  rw [ht]
theorem two_len {l : List UInt8} {a : Nat} (h : twos.contains (part l a (a + 2)) = true) : a + 2 ≤ l.length := by
  have : (part l a (a + 2)).length = 2 := by
    have hm := List.contains_iff_mem.1 h
    simp only [twos, List.mem_cons, List.not_mem_nil, or_false] at hm
    rcases hm with e | e | e | e <;> rw [e] <;> rfl
  unfold part at this
  rw [List.length_take, List.length_drop] at this
  omega

set_option maxRecDepth 100000 in
set_option maxHeartbeats 2000000 in
theorem sign_any (s : ByteArray) (hs : s.size ≤ 1000000) (a b t : Nat) (ha : a < s.size) (hbt : b ≠ t) (w : World) (hb : LexAt b s a w) (ht : TokAt t ⟨1, a, 0, 0, 0, []⟩ w) :
    Calls Tryd.prog 28 #[.pointer (some ⟨b, 0, none⟩), .pointer (some ⟨t, 0, none⟩)] w (Reads b t s a (signS s.data.toList a) w) := by
  have HP := Lib.hid (fun p w => Tryd.strings_HasPrefix (s.extract a s.size) p w)
  have hd := drop_bytes s a
  have HN := Lib.hid (nOf_step s.data.toList a)
  have HD := Lib.hid hd; clear hd
  have d0 := hb.c0; have d1 := hb.c1
  have hen := enters_prefix
  have HL : s.data.toList.length = s.size := by simp
  have HR := signS.eq_def s.data.toList a
  have hblt := lt_of_block hb
  have htlt := lt_of_block ht
  go_enter Tryd.func28, Tryd.ntmps28
  go_wp2_with fail
  have hfr0 := (Fr.refl [b, t] w).alloc (.cells #[.string ⟨#[61, 61]⟩, .string ⟨#[60, 61]⟩, .string ⟨#[38, 38]⟩, .string ⟨#[124, 124]⟩] 9)
  have hlx0 := hb.kept ((Fr.refl [] w).alloc (.cells #[.string ⟨#[61, 61]⟩, .string ⟨#[60, 61]⟩, .string ⟨#[38, 38]⟩, .string ⟨#[124, 124]⟩] 9)) (by simp)
  have htk0 := ht.kept ((Fr.refl [] w).alloc (.cells #[.string ⟨#[61, 61]⟩, .string ⟨#[60, 61]⟩, .string ⟨#[38, 38]⟩, .string ⟨#[124, 124]⟩] 9)) (by simp)
  have hnew : (w.alloc (.cells #[.string ⟨#[61, 61]⟩, .string ⟨#[60, 61]⟩, .string ⟨#[38, 38]⟩, .string ⟨#[124, 124]⟩] 9)).heap[w.heap.size]? = some (.cells #[.string ⟨#[61, 61]⟩, .string ⟨#[60, 61]⟩, .string ⟨#[38, 38]⟩, .string ⟨#[124, 124]⟩] 9 (0, 0)) := heap_alloc_new w _
  generalize w.alloc (.cells #[.string ⟨#[61, 61]⟩, .string ⟨#[60, 61]⟩, .string ⟨#[38, 38]⟩, .string ⟨#[124, 124]⟩] 9) = W at *
  have hle : a ≤ s.size := by omega
  generalize hgh : w.heap.size = H at *
  go_loopw [5, 10] (fun nv iv wr => ∃ i : Nat, i ≤ 4 ∧ LexAt b s a wr ∧ TokAt t ⟨1, a, 0, 0, 0, []⟩ wr ∧ Fr [b, t] w wr ∧ wr.heap[H]? = some (.cells #[.string ⟨#[61, 61]⟩, .string ⟨#[60, 61]⟩, .string ⟨#[38, 38]⟩, .string ⟨#[124, 124]⟩] 9 (0, 0)) ∧ iv = .int .i64 i ∧ nv = .int .i64 (nOf s.data.toList a i)) (fun _ iv _ => 4 - (intOf iv).toNat)
  case atStart => exact ⟨0, by omega, hlx0, htk0, hfr0, hnew, rfl, rfl⟩
  case round =>
    obtain ⟨i, hi, hlx, htk, hfr, hnw, rfl, rfl⟩ := hrel
    have q0 : wr.cell? ⟨H, 0, none⟩ = some (.string ⟨#[61, 61]⟩) := Lib.cell_of_heap hnw 0
    have q1 : wr.cell? ⟨H, 1, none⟩ = some (.string ⟨#[60, 61]⟩) := Lib.cell_of_heap hnw 1
    have q2 : wr.cell? ⟨H, 2, none⟩ = some (.string ⟨#[38, 38]⟩) := Lib.cell_of_heap hnw 2
    have q3 : wr.cell? ⟨H, 3, none⟩ = some (.string ⟨#[124, 124]⟩) := Lib.cell_of_heap hnw 3
    have l0 := hlx.c0; have l1 := hlx.c1; have m1 := hlx.f1
    have hcase : i = 0 ∨ i = 1 ∨ i = 2 ∨ i = 3 ∨ i = 4 := by omega
    rcases hcase with rfl | rfl | rfl | rfl | rfl
    · have hst := HN.out 0 (by omega)
      have hp := HP.out ⟨#[61, 61]⟩
      rw [HD.out, show (⟨#[61, 61]⟩ : ByteArray).data.toList = [61, 61] from rfl] at hp
      rw [show twos.getD 0 [] = [61, 61] from rfl] at hst
      cases hv : Lib.hasPrefix (s.data.toList.drop a) [61, 61]
      · rw [hv] at hp hst
        have HPP := Lib.hid hp; clear hp
        go_wp2_with fail
        go_quiet (refine Calls.quiet_of_same (HPP.out _))
        go_wp2
        go_roundw
        case rel => exact ⟨1, by omega, hlx.drewN _, htk.drewN _, hfr.drewN _, hnw, rfl, by rw [hst]; rfl⟩
        case measure => simp [intOf]
      · rw [hv] at hp hst
        have HPP := Lib.hid hp; clear hp
        go_wp2_with fail
        go_quiet (refine Calls.quiet_of_same (HPP.out _))
        go_wp2
        go_roundw
        case rel => exact ⟨1, by omega, hlx.drewN _, htk.drewN _, hfr.drewN _, hnw, rfl, by rw [hst]; rfl⟩
        case measure => simp [intOf]
    · have hst := HN.out 1 (by omega)
      have hp := HP.out ⟨#[60, 61]⟩
      rw [HD.out, show (⟨#[60, 61]⟩ : ByteArray).data.toList = [60, 61] from rfl] at hp
      rw [show twos.getD 1 [] = [60, 61] from rfl] at hst
      cases hv : Lib.hasPrefix (s.data.toList.drop a) [60, 61]
      · rw [hv] at hp hst
        have HPP := Lib.hid hp; clear hp
        go_wp2_with fail
        go_quiet (refine Calls.quiet_of_same (HPP.out _))
        go_wp2
        go_roundw
        case rel => exact ⟨2, by omega, hlx.drewN _, htk.drewN _, hfr.drewN _, hnw, rfl, by rw [hst]; rfl⟩
        case measure => simp [intOf]
      · rw [hv] at hp hst
        have HPP := Lib.hid hp; clear hp
        go_wp2_with fail
        go_quiet (refine Calls.quiet_of_same (HPP.out _))
        go_wp2
        go_roundw
        case rel => exact ⟨2, by omega, hlx.drewN _, htk.drewN _, hfr.drewN _, hnw, rfl, by rw [hst]; rfl⟩
        case measure => simp [intOf]
    · have hst := HN.out 2 (by omega)
      have hp := HP.out ⟨#[38, 38]⟩
      rw [HD.out, show (⟨#[38, 38]⟩ : ByteArray).data.toList = [38, 38] from rfl] at hp
      rw [show twos.getD 2 [] = [38, 38] from rfl] at hst
      cases hv : Lib.hasPrefix (s.data.toList.drop a) [38, 38]
      · rw [hv] at hp hst
        have HPP := Lib.hid hp; clear hp
        go_wp2_with fail
        go_quiet (refine Calls.quiet_of_same (HPP.out _))
        go_wp2
        go_roundw
        case rel => exact ⟨3, by omega, hlx.drewN _, htk.drewN _, hfr.drewN _, hnw, rfl, by rw [hst]; rfl⟩
        case measure => simp [intOf]
      · rw [hv] at hp hst
        have HPP := Lib.hid hp; clear hp
        go_wp2_with fail
        go_quiet (refine Calls.quiet_of_same (HPP.out _))
        go_wp2
        go_roundw
        case rel => exact ⟨3, by omega, hlx.drewN _, htk.drewN _, hfr.drewN _, hnw, rfl, by rw [hst]; rfl⟩
        case measure => simp [intOf]
    · have hst := HN.out 3 (by omega)
      have hp := HP.out ⟨#[124, 124]⟩
      rw [HD.out, show (⟨#[124, 124]⟩ : ByteArray).data.toList = [124, 124] from rfl] at hp
      rw [show twos.getD 3 [] = [124, 124] from rfl] at hst
      cases hv : Lib.hasPrefix (s.data.toList.drop a) [124, 124]
      · rw [hv] at hp hst
        have HPP := Lib.hid hp; clear hp
        go_wp2_with fail
        go_quiet (refine Calls.quiet_of_same (HPP.out _))
        go_wp2
        go_roundw
        case rel => exact ⟨4, by omega, hlx.drewN _, htk.drewN _, hfr.drewN _, hnw, rfl, by rw [hst]; rfl⟩
        case measure => simp [intOf]
      · rw [hv] at hp hst
        have HPP := Lib.hid hp; clear hp
        go_wp2_with fail
        go_quiet (refine Calls.quiet_of_same (HPP.out _))
        go_wp2
        go_roundw
        case rel => exact ⟨4, by omega, hlx.drewN _, htk.drewN _, hfr.drewN _, hnw, rfl, by rw [hst]; rfl⟩
        case measure => simp [intOf]
    · by_cases h2 : twos.contains (part s.data.toList a (a + 2)) = true
      · have hn2 : nOf s.data.toList a 4 = 2 := by rw [nOf_all, if_pos h2]
        have hsz := two_len h2
        rw [HL] at hsz
        rw [if_pos h2] at HR
        rw [hn2]
        have HR := Lib.hid HR
        clear hn2 h2
        go_wp2_with fail
        go_quiet (fail)
        go_wp2
        have A1 : LexAt b s (a + 2) ((wr.drewN nq).setCell ⟨b, 1, none⟩ (.int .i64 ((a : Int) + 2))) := (hlx.drewN nq).put (a + 2)
        have A2 := (htk.drewN nq).other ⟨b, 1, none⟩ (.int .i64 ((a : Int) + 2)) (Ne.symm hbt)
        have A3 := (hfr.drewN nq).setCell (l := [b, t]) ⟨b, 1, none⟩ (by simp) (.int .i64 ((a : Int) + 2))
        generalize (wr.drewN nq).setCell ⟨b, 1, none⟩ (.int .i64 ((a : Int) + 2)) = W2 at *
        generalize hc : a + 2 = c at A1 HR hsz
        have b0 := A1.c0
        have b1 := A1.c1
        have t0 : W2.cell? ⟨t, 0, none⟩ = some (.int .i64 1) := A2.cell 0
        have t5 : W2.cell? ⟨t, 5, none⟩ = some (.string ⟨#[]⟩) := A2.cell 5
        have g0 := A2.free 0
        have g5 := A2.free 5
        have w1 : IntKind.i64.wrap ((c : Int) - 2) = (a : Int) := by rw [show (c : Int) - 2 = a by omega, IntKind.wrap_i64]; omega
        have w0 : IntKind.i64.wrap (a : Int) = (a : Int) := by rw [IntKind.wrap_i64]; omega
        have w3 : (c : Int) ≤ (s.size : Int) := by omega
        have w4 : (0 : Int) ≤ (a : Int) := by omega
        have w5 : (a : Int) ≤ (c : Int) := by omega
        have w6 : a ≤ c := by omega
        go_region_held3 (fun w' => w'.cell? ⟨b, 0, none⟩ = some (.string s) ∧ w'.cell? ⟨b, 1, none⟩ = some (.int .i64 (c : Int))) (first | exact ⟨(cell_kept hbt).trans b0, (cell_kept hbt).trans b1⟩ | exact ⟨(cell_kept hbt).trans ((cell_kept hbt).trans b0), (cell_kept hbt).trans ((cell_kept hbt).trans b1)⟩ | exact ⟨b0, b1⟩) (fail)
        go_wp2_with fail
        go_ret
        have F1 : TokAt t ⟨6, a, 0, 0, 0, part s.data.toList a c⟩ (((W2.setCell ⟨t, 0, none⟩ (.int .i64 6)).setCell ⟨t, 5, none⟩ (.string (s.extract a c)))) := (A2.set (k' := ⟨6, a, 0, 0, 0, []⟩) 0 _ rfl).set 5 _ (by rw [part_bytes s a c]; rfl)
        have F2 := (A1.other ⟨t, 0, none⟩ (.int .i64 6) hbt).other ⟨t, 5, none⟩ (.string (s.extract a c)) hbt
        have F3 := (A3.setCell (l := [b, t]) ⟨t, 0, none⟩ (by simp) (.int .i64 6)).setCell (l := [b, t]) ⟨t, 5, none⟩ (by simp) (.string (s.extract a c))
        exact ⟨ret_val (by rw [HR.out]; rfl), F3.drewN 1, ⟨_, c, rfl, F1, F2, hsz⟩, fun _ => by rw [HR.out]; exact ⟨F1, F2, hsz, rfl⟩⟩
      · have hn2 : nOf s.data.toList a 4 = 1 := by rw [nOf_all, if_neg h2]
        rw [if_neg h2] at HR
        rw [hn2]
        have HI := Tryd.strings_IndexByte ⟨ones.toArray⟩ ((s[a]'ha).toNat : Int)
        rw [show (⟨ones.toArray⟩ : ByteArray).data.toList = ones from rfl] at HI
        have hci : ((s[a]'ha).toNat : Int).toNat.toUInt8 = s.data.toList.getD a 0 := by
          have : s[a]'ha = s.data.toList.getD a 0 := by simp [List.getD, ha]; rfl
          rw [← this]; simp
        rw [hci] at HI
        have hix := sign_ix (s.data.toList.getD a 0)
        have henI := enters_index
        clear hn2 h2 hci
        have HII := Lib.hid HI; clear HI
        generalize Lib.indexByte ones (s.data.toList.getD a 0) = ix at *
        by_cases h3 : ones.contains (s.data.toList.getD a 0) = true
        · rw [if_pos h3] at HR
          rw [h3] at hix
          have HR := Lib.hid HR
          have hsz : a + 1 ≤ s.size := by omega
          have hp1 := part_one (l := s.data.toList) (a := a) (by rw [HL]; exact ha)
          clear h3
          go_wp2_with fail
          go_quiet (refine Calls.quiet_of_same (HII.out _))
          go_wp2
          have A1 : LexAt b s (a + 1) ((wr.drewN nq).setCell ⟨b, 1, none⟩ (.int .i64 ((a : Int) + 1))) := (hlx.drewN nq).put (a + 1)
          have A2 := (htk.drewN nq).other ⟨b, 1, none⟩ (.int .i64 ((a : Int) + 1)) (Ne.symm hbt)
          have A3 := (hfr.drewN nq).setCell (l := [b, t]) ⟨b, 1, none⟩ (by simp) (.int .i64 ((a : Int) + 1))
          generalize (wr.drewN nq).setCell ⟨b, 1, none⟩ (.int .i64 ((a : Int) + 1)) = W2 at *
          generalize hc : a + 1 = c at A1 HR hsz
          have b0 := A1.c0
          have b1 := A1.c1
          have t0 : W2.cell? ⟨t, 0, none⟩ = some (.int .i64 1) := A2.cell 0
          have t5 : W2.cell? ⟨t, 5, none⟩ = some (.string ⟨#[]⟩) := A2.cell 5
          have g0 := A2.free 0
          have g5 := A2.free 5
          have w1 : IntKind.i64.wrap ((c : Int) - 1) = (a : Int) := by rw [show (c : Int) - 1 = a by omega, IntKind.wrap_i64]; omega
          have w0 : IntKind.i64.wrap (a : Int) = (a : Int) := by rw [IntKind.wrap_i64]; omega
          have w3 : (c : Int) ≤ (s.size : Int) := by omega
          have w4 : (0 : Int) ≤ (a : Int) := by omega
          have w5 : (a : Int) ≤ (c : Int) := by omega
          have w6 : a ≤ c := by omega
          go_region_held3 (fun w' => w'.cell? ⟨b, 0, none⟩ = some (.string s) ∧ w'.cell? ⟨b, 1, none⟩ = some (.int .i64 (c : Int))) (first | exact ⟨(cell_kept hbt).trans b0, (cell_kept hbt).trans b1⟩ | exact ⟨(cell_kept hbt).trans ((cell_kept hbt).trans b0), (cell_kept hbt).trans ((cell_kept hbt).trans b1)⟩ | exact ⟨b0, b1⟩) (fail)
          go_wp2_with fail
          go_ret
          have F1 : TokAt t ⟨6, a, 0, 0, 0, [s.data.toList.getD a 0]⟩ (((W2.setCell ⟨t, 0, none⟩ (.int .i64 6)).setCell ⟨t, 5, none⟩ (.string (s.extract a c)))) := (A2.set (k' := ⟨6, a, 0, 0, 0, []⟩) 0 _ rfl).set 5 _ (by rw [part_bytes s a c, ← hc, hp1]; rfl)
          have F2 := (A1.other ⟨t, 0, none⟩ (.int .i64 6) hbt).other ⟨t, 5, none⟩ (.string (s.extract a c)) hbt
          have F3 := (A3.setCell (l := [b, t]) ⟨t, 0, none⟩ (by simp) (.int .i64 6)).setCell (l := [b, t]) ⟨t, 5, none⟩ (by simp) (.string (s.extract a c))
          exact ⟨ret_val (by rw [HR.out]; rfl), F3.drewN 1, ⟨_, c, rfl, F1, F2, hsz⟩, fun _ => by rw [HR.out]; exact ⟨F1, F2, hsz, rfl⟩⟩
        · rw [if_neg h3] at HR
          rw [show ones.contains (s.data.toList.getD a 0) = false by simpa using h3] at hix
          have HR := Lib.hid HR
          clear h3
          go_wp2_with fail
          go_quiet (refine Calls.quiet_of_same (HII.out _))
          go_wp2
          go_ret
          exact ⟨ret_val (by rw [HR.out]; rfl), hfr.drewN _, ⟨_, a, rfl, htk.drewN _, hlx.drewN _, hle⟩, fun h => by rw [HR.out] at h; cases h⟩
end Go.Proofs.YtkcbkfflabkcgaaDoor
