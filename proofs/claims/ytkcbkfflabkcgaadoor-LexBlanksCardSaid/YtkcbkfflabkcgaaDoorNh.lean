/-
  The walk of the law LexBlanks.
-/
import Derived.Test.YtkcbkfflabkcgaaDoorMa
import Derived.Test.YtkcbkfflabkcgaaDoorNg
import Derived.Deep.Cut
namespace Go.Proofs.YtkcbkfflabkcgaaDoor
open Go.RowKit

def sepB : Nat → List UInt8
  | 0 => [32]
  | 1 => [10]
  | 2 => [9, 32]
  | _ => [13, 10]
theorem sepB_blanks (n : Nat) : Blanks (sepB n) := by
  unfold sepB
  split <;> exact ⟨rfl, by decide⟩
theorem sepB_len (n : Nat) : (sepB n).length ≤ 2 := by
  unfold sepB
  split <;> decide
def sepAt (zs : List Int) (n i : Nat) : List UInt8 := sepB ((zs.getD (i % n) 0) % 4).toNat
theorem tokens_zero {l : List UInt8} (h : (tokens l).2.2 = 0) : (tokens l).2.1 = 0 := by
  unfold tokens at h ⊢
  split
  · rfl
  · rename_i h1
    rw [if_neg h1] at h
    exact allS_zero _ _ h
theorem chain_next {l : List UInt8} {L : List Tk} {i b : Nat} (hi : i + 1 < L.length) (h : Chain l b (L.drop i)) : (L.getD i noTk).next ≤ l.length := by
  have hi2 : i < L.length := by omega
  have e : L.getD i noTk = L[i] := by simp [List.getD, hi2]
  rw [e]
  rw [List.drop_eq_getElem_cons hi2] at h
  refine h.2.2.2.1 ?_
  intro h0
  have := congrArg List.length h0
  rw [List.length_drop] at this
  simp at this
  omega
theorem joinB_len (l : List UInt8) (sp : Nat → List UInt8) (hsp : ∀ i, (sp i).length ≤ 2) : ∀ (ks : List Tk) (i b : Nat), b ≤ l.length → Chain l b (ks ++ [lastTk l.length]) → (joinB l sp i b ks).length + b ≤ 2 * ks.length + l.length
  | [], i, b, hb, _ => by show 0 + b ≤ _; simp; exact hb
  | k :: ks, i, b, hb, h => by
    obtain ⟨h1, h2, h3, h4, h5⟩ := h
    have hk : k.next ≤ l.length := h4 (by simp)
    have ih := joinB_len l sp hsp ks (i + 1) k.next hk h5
    have h6 := hsp i
    unfold joinB
    rw [List.length_append, List.length_append, part_length hk, List.length_cons]
    omega

set_option maxRecDepth 100000 in
set_option maxHeartbeats 4000000 in
theorem blanks_off (s : ByteArray) (p : Option Addr) (n cap : Nat) (w : World) (hE : Env w) (h : 400 < s.size ∨ n = 0 ∨ 50 < n) :
    Calls Tryd.prog 3 #[.string s, .slice p n cap] w fun e w' => e = .returned (.bool true) ∧ Below w.heap.size w w' := by
  have HA := Lib.hid (fun w hE => awake_any w hE)
  by_cases hs : 400 < s.size
  · have t1 : decide ((400 : Int) < (s.size : Int)) = true := by simp; omega
    clear h hs
    go_enter Tryd.func3, Tryd.ntmps3
    go_wp2_with fail
    refine (HA.out _ hE).mono ?_; rintro e w1 ⟨rfl, h1⟩
    go_wp2_with fail
    refine (HA.out _ (hE.below h1)).mono ?_; rintro e w2 ⟨rfl, k2⟩
    have h2 := below_tr h1 k2
    go_wp2_with fail
    go_ret
    exact ⟨rfl, h2⟩
  · have t1 : decide ((400 : Int) < (s.size : Int)) = false := by simp; omega
    have t1' : ¬ 400 < s.size := hs
    by_cases h0 : n = 0
    · subst h0
      clear h hs
      go_enter Tryd.func3, Tryd.ntmps3
      go_wp2_with fail
      refine (HA.out _ hE).mono ?_; rintro e w1 ⟨rfl, h1⟩
      go_wp2_with fail
      refine (HA.out _ (hE.below h1)).mono ?_; rintro e w2 ⟨rfl, k2⟩
      have h2 := below_tr h1 k2
      go_wp2_with fail
      go_ret
      exact ⟨rfl, h2⟩
    · have t2 : ((n : Int) == 0) = false := by rw [beq_eq_false_iff_ne]; omega
      have t3 : decide ((50 : Int) < (n : Int)) = true := by simp; omega
      clear h hs h0
      go_enter Tryd.func3, Tryd.ntmps3
      go_wp2_with fail
      refine (HA.out _ hE).mono ?_; rintro e w1 ⟨rfl, h1⟩
      go_wp2_with fail
      refine (HA.out _ (hE.below h1)).mono ?_; rintro e w2 ⟨rfl, k2⟩
      have h2 := below_tr h1 k2
      go_wp2_with fail
      go_ret
      exact ⟨rfl, h2⟩

set_option maxRecDepth 100000 in
set_option maxHeartbeats 8000000 in
theorem blanks_on (s : ByteArray) (hs : s.size ≤ 400) (pb off n cap : Nat) (hn1 : 1 ≤ n) (hn2 : n ≤ 50) (zs : List Int) (w : World) (hpb : pb < w.heap.size) (hz : ∀ i, i < n → w.cell? ⟨pb, off + i, none⟩ = some (.int .u8 (zs.getD i 0))) (hzz : ∀ i, i < n → 0 ≤ zs.getD i 0 ∧ zs.getD i 0 ≤ 255) (hE : Env w) :
    Calls Tryd.prog 3 #[.string s, .slice (some ⟨pb, off, none⟩) n cap] w fun e w' => e = .returned (.bool true) ∧ Below w.heap.size w w' := by
  have hst := store_float
  have HA := Lib.hid (fun w hE => awake_any w hE)
  have HAll := Lib.hid (fun s w hE => all_any s w hE)
  have HZ := Lib.hid hz
  have HZZ := Lib.hid hzz
  clear hz hzz
  have t1 : decide ((400 : Int) < (s.size : Int)) = false := by simp; omega
  have t1' : ¬ 400 < s.size := by omega
  have t2 : ((n : Int) == 0) = false := by rw [beq_eq_false_iff_ne]; omega
  have t3 : decide ((50 : Int) < (n : Int)) = false := by simp; omega
  have t3' : ¬ 50 < n := by omega
  have hl : s.data.toList.length = s.size := by simp
  have HL := Lib.hid hl
  have hch := fun h => tokens_chain (l := s.data.toList) (by omega) h
  have hlen := tokens_len2 s.data.toList
  rw [hl] at hlen hch
  have HCh := Lib.hid hch
  have hjt := fun ks h hj => join_tokens (l := s.data.toList) (sp := sepAt zs n) (fun i => sepB_blanks _) (ks := ks) (by omega) h hj
  have HJ := Lib.hid hjt
  clear hch hl hjt
  have hq := Lib.hid (Eq.refl (tokens s.data.toList))
  generalize hqq : tokens s.data.toList = q at *
  replace hq := Lib.hid hqq
  clear hqq
  obtain ⟨ks, a, e⟩ := q
  dsimp only at hlen HCh
  have HAs := Lib.hid (fun w hE => (HAll.out s w hE).mono fun e1 w' h => (show AllRes (ks, a, e) w e1 w' from by rw [← hq.out]; exact h))
  by_cases h0 : e = 0
  · have t4 : (e != 0) = false := by rw [h0]; rfl
    have HC := Lib.hid (HCh.out h0)
    have H0 := Lib.hid h0
    clear h0 HCh
    go_enter Tryd.func3, Tryd.ntmps3
    go_wp2_with fail
    refine (HA.out _ hE).mono ?_; rintro e1 w1 ⟨rfl, h1⟩
    go_wp2_with fail
    refine (HAs.out _ (hE.below h1)).mono ?_; rintro e2 w2 ⟨v, rfl, k2, hT2⟩
    have h2 := below_tr h1 k2
    dsimp only at hT2 ⊢
    have hE2 := hE.below h2
    clear h1 k2
    rcases Nat.eq_zero_or_pos ks.length with hk0 | hk0
    · have hk1 : ks = [] := List.length_eq_zero_iff.1 hk0
      subst hk1
      obtain ⟨p, vc, rfl⟩ := hT2.nil
      have hA2 := HAll.out ⟨#[32]⟩
      have htk : tokens (⟨#[32]⟩ : ByteArray).data.toList = ([], 0, 0) := by kernel_rfl
      rw [htk] at hA2
      have HA2 := Lib.hid hA2
      have HSp := Lib.hid (fun w => run_string_add_sum (P := Tryd.prog) w ⟨#[]⟩ ⟨#[32]⟩ (by decide))
      clear hA2 htk hk0
      have hsp := fun w => HSp.out w
      go_wp2_with fail
      refine wp_loop_rounds 1 ?_
      rw [rounds_succ]
      go_wp2_with fail
      clear hsp
      refine (HA2.out _ hE2).mono ?_; rintro e3 w3 ⟨v3, rfl, k3, hT3⟩
      have h3 := below_tr h2 k3
      obtain ⟨p3, c3, rfl⟩ := hT3.nil
      dsimp only
      go_wp2_with fail
      refine wp_loop_rounds 1 ?_
      rw [rounds_succ]
      go_wp2_with fail
      go_ret
      exact ⟨rfl, h3⟩
    · obtain ⟨g, vc, hvv, hg, hc⟩ := hT2.form hk0
      subst hvv
      have HT2 := Lib.hid hT2
      have HCc := Lib.hid hc
      generalize hN : ks.length = N at *
      have HN := Lib.hid hN
      clear hc hN hT2
      go_wp2_with fail
      have hB5 := Below.refl w2.heap.size w2
      generalize hG : w2.heap.size = G at *
      have HG := Lib.hid hG; clear hG
      have hwG : w.heap.size ≤ G := by have := h2.size; rw [HG.out] at this; exact this
      go_loopw [8, 9, 46] (fun ov bv iv wr => ∃ (i b : Nat) (O : ByteArray), i ≤ N ∧ b ≤ s.size ∧ O.size ≤ 2 * i + b ∧ ov = .string O ∧ bv = .int .i64 b ∧ iv = .int .i64 i ∧ Below G w2 wr ∧ Hid (Chain s.data.toList b ((ks ++ [lastTk s.size]).drop i)) ∧ Hid (joinB s.data.toList (sepAt zs n) 0 0 ks = O.data.toList ++ joinB s.data.toList (sepAt zs n) i b (ks.drop i))) (fun _ _ iv _ => N - (intOf iv).toNat)
      case atStart => exact ⟨0, 0, ⟨#[]⟩, by omega, by omega, Nat.le_refl _, rfl, rfl, rfl, hB5, by show Chain _ _ _; rw [List.drop_zero]; exact HC.out, by show _ = _; rw [List.drop_zero]; rfl⟩
      case round =>
        clear hB5
        obtain ⟨i, b, O, hi, hbs, hO, rfl, rfl, rfl, hB, hch, hjo⟩ := hrel
        have hGr : G ≤ wr.heap.size := by have := hB.size; rw [HG.out] at this; exact this
        by_cases hlt : i < N
        · have t5 : decide ((i : Int) < (N : Int)) = true := by simp; omega
          have x0 : wr.cell? ⟨g, i * 6, none⟩ = some (.int .i64 (ks.getD i noTk).kind) := (hB.cell (p := ⟨g, i * 6 + 0, none⟩) (by show g < G; omega)).trans (HCc.out i 0 hlt (by decide))
          have x1 : wr.cell? ⟨g, i * 6 + 1, none⟩ = some (.int .i64 (ks.getD i noTk).pos) := (hB.cell (p := ⟨g, i * 6 + 1, none⟩) (by show g < G; omega)).trans (HCc.out i 1 hlt (by decide))
          have x2 : wr.cell? ⟨g, i * 6 + 2, none⟩ = some (.int .i64 (ks.getD i noTk).next) := (hB.cell (p := ⟨g, i * 6 + 2, none⟩) (by show g < G; omega)).trans (HCc.out i 2 hlt (by decide))
          have x3 : wr.cell? ⟨g, i * 6 + 3, none⟩ = some (.int .i64 (ks.getD i noTk).num) := (hB.cell (p := ⟨g, i * 6 + 3, none⟩) (by show g < G; omega)).trans (HCc.out i 3 hlt (by decide))
          have x4 : wr.cell? ⟨g, i * 6 + 4, none⟩ = some (.float .f64 (ks.getD i noTk).flt) := (hB.cell (p := ⟨g, i * 6 + 4, none⟩) (by show g < G; omega)).trans (HCc.out i 4 hlt (by decide))
          have x5 : wr.cell? ⟨g, i * 6 + 5, none⟩ = some (.string ⟨(ks.getD i noTk).str.toArray⟩) := (hB.cell (p := ⟨g, i * 6 + 5, none⟩) (by show g < G; omega)).trans (HCc.out i 5 hlt (by decide))
          have hks : (ks ++ [lastTk s.size]).getD i noTk = ks.getD i noTk := by
            rw [List.getD_eq_getElem?_getD, List.getD_eq_getElem?_getD, List.getElem?_append_left (by rw [HN.out]; exact hlt)]
          obtain ⟨c1, c2, c3, c4⟩ := chain_drop (L := ks ++ [lastTk s.size]) (i := i) (by rw [List.length_append, HN.out]; simp; omega) hch.out
          rw [hks] at c1 c2 c4
          have hnx : (ks.getD i noTk).next ≤ s.size := by
            have := chain_next (L := ks ++ [lastTk s.size]) (i := i) (by rw [List.length_append, HN.out]; simp; omega) hch.out
            rw [hks, HL.out] at this
            exact this
          have hjn : joinB s.data.toList (sepAt zs n) i b (ks.drop i) = sepAt zs n i ++ part s.data.toList b (ks.getD i noTk).next ++ joinB s.data.toList (sepAt zs n) (i + 1) (ks.getD i noTk).next (ks.drop (i + 1)) := by
            have hik : i < ks.length := by rw [HN.out]; exact hlt
            rw [List.drop_eq_getElem_cons hik]
            have e : ks.getD i noTk = ks[i] := by simp [List.getD, hik]
            rw [e]
            rfl
          have HJn := Lib.hid hjn
          have HC4 := Lib.hid c4
          clear hjn c4 hks
          have hbn : b ≤ (ks.getD i noTk).next := by omega
          generalize ks.getD i noTk = k at *
          clear c1 c2 c3
          have b1 : (0 : Int) ≤ (i : Int) := by omega
          have b2 : (i : Int) < (N : Int) := by omega
          go_upto_region 11 with (fail)
          have hK2 : TokAt wr.heap.size k (wr.alloc (.cells #[.int .i64 k.kind, .int .i64 k.pos, .int .i64 k.next, .int .i64 k.num, .float .f64 k.flt, .string ⟨k.str.toArray⟩] 30)) := heap_alloc_new wr _
          have hB6 := hB.alloc hGr (.cells #[.int .i64 k.kind, .int .i64 k.pos, .int .i64 k.next, .int .i64 k.num, .float .f64 k.flt, .string ⟨k.str.toArray⟩] 30)
          clear x0 x1 x2 x3 x4 x5
          generalize wr.alloc (.cells #[.int .i64 k.kind, .int .i64 k.pos, .int .i64 k.next, .int .i64 k.num, .float .f64 k.flt, .string ⟨k.str.toArray⟩] 30) = W5 at *
          generalize wr.heap.size = T at *
          have z2 : W5.cell? ⟨T, 2, none⟩ = some (.int .i64 k.next) := hK2.cell 2
          have hm1 : i % n < n := Nat.mod_lt _ (by omega)
          have hp := HZ.out (i % n) hm1
          have hp5 : W5.cell? ⟨pb, off + i % n, none⟩ = some (.int .u8 (zs.getD (i % n) 0)) := ((hB6.cell (p := ⟨pb, off + i % n, none⟩) (by show pb < G; omega)).trans (h2.cell (p := ⟨pb, off + i % n, none⟩) hpb)).trans hp
          obtain ⟨q1, q2⟩ := HZZ.out (i % n) hm1
          have HSep := Lib.hid (show sepAt zs n i = sepB ((zs.getD (i % n) 0) % 4).toNat from rfl)
          generalize zs.getD (i % n) 0 = z at *
          have hmt : (i : Int).tmod (n : Int) = ((i % n : Nat) : Int) := by rw [Int.tmod_eq_emod_of_nonneg (by omega)]; omega
          have hmm : (i : Int) % (n : Int) = ((i % n : Nat) : Int) := by omega
          generalize i % n = m at *
          have m1 : (0 : Int) ≤ (m : Int) := by omega
          have m2 : (m : Int) < (n : Int) := by omega
          have hzt : z.tmod 4 = z % 4 := Int.tmod_eq_emod_of_nonneg q1
          have hd : z % 4 = 0 ∨ z % 4 = 1 ∨ z % 4 = 2 ∨ z % 4 = 3 := by omega
          have s1 : (b : Int) ≤ (k.next : Int) := by omega
          have s2 : (k.next : Int) ≤ (s.size : Int) := by omega
          have hn0 : ¬ n = 0 := by omega
          have hn0' : (n : Int) ≠ 0 := by omega
          have hxs : (s.extract b k.next).size = k.next - b := by rw [ByteArray.size_extract]; omega
          have HXs := Lib.hid hxs
          have hpt := part_bytes s b k.next
          have HPt := Lib.hid hpt
          clear hxs hpt
          rcases hd with hd | hd | hd | hd
          · have i0 : ∀ w, (Instr.index 31 (.agg #[.string ⟨#[32]⟩, .string ⟨#[10]⟩, .string ⟨#[9, 32]⟩, .string ⟨#[13, 10]⟩]) (.int .u8 0)).run Tryd.prog w = .ok (.string ⟨#[32]⟩) w := fun _ => by kernel_rfl
            rw [hd] at hzt HSep
            have hs1 : (⟨#[32]⟩ : ByteArray).size ≤ 2 := by decide
            have ha1 : ∀ w, (Op.stringOp .add ⟨#[32]⟩ (s.extract b k.next)).run Tryd.prog w = .ok (.string (⟨#[32]⟩ ++ s.extract b k.next)) w := fun w => run_string_add_sum w _ _ (by rw [HXs.out]; omega)
            have hsz1 : ((⟨#[32]⟩ : ByteArray) ++ s.extract b k.next).size ≤ 2 + (k.next - b) := by rw [ByteArray.size_append, HXs.out]; omega
            have ha2 : ∀ w, (Op.stringOp .add O (⟨#[32]⟩ ++ s.extract b k.next)).run Tryd.prog w = .ok (.string (O ++ (⟨#[32]⟩ ++ s.extract b k.next))) w := fun w => run_string_add_sum w _ _ (by omega)
            have HO2 : Hid ((O ++ (⟨#[32]⟩ ++ s.extract b k.next)).size ≤ 2 * (i + 1) + k.next) := by show _ ≤ _; rw [ByteArray.size_append]; omega
            have HD2 : Hid ((O ++ ((⟨#[32]⟩ : ByteArray) ++ s.extract b k.next)).data.toList = O.data.toList ++ (sepAt zs n i ++ part s.data.toList b k.next)) := by
              show _ = _
              rw [HSep.out, HPt.out]
              simp [ByteArray.data_append]
              rfl
            clear hs1 hsz1
            go_quiet (fail)
            have hB7 : Below G w2 (W5.drewN nq) := hB6.trans ⟨rfl, rfl, rfl, Nat.le_refl _, fun _ _ => rfl⟩
            have z3 : (W5.drewN nq).cell? ⟨T, 2, none⟩ = some (.int .i64 k.next) := z2
            clear ha1 ha2 i0 hmt hzt
            go_wp2_with fail
            go_roundw
            case rel => exact ⟨i + 1, k.next, _, by omega, hnx, HO2.out, rfl, rfl, by go_num, hB7, HC4.out, by show _ = _; rw [hjo.out, HJn.out, HD2.out]; simp⟩
            case measure => simp [intOf]; omega
          · have i0 : ∀ w, (Instr.index 31 (.agg #[.string ⟨#[32]⟩, .string ⟨#[10]⟩, .string ⟨#[9, 32]⟩, .string ⟨#[13, 10]⟩]) (.int .u8 1)).run Tryd.prog w = .ok (.string ⟨#[10]⟩) w := fun _ => by kernel_rfl
            rw [hd] at hzt HSep
            have hs1 : (⟨#[10]⟩ : ByteArray).size ≤ 2 := by decide
            have ha1 : ∀ w, (Op.stringOp .add ⟨#[10]⟩ (s.extract b k.next)).run Tryd.prog w = .ok (.string (⟨#[10]⟩ ++ s.extract b k.next)) w := fun w => run_string_add_sum w _ _ (by rw [HXs.out]; omega)
            have hsz1 : ((⟨#[10]⟩ : ByteArray) ++ s.extract b k.next).size ≤ 2 + (k.next - b) := by rw [ByteArray.size_append, HXs.out]; omega
            have ha2 : ∀ w, (Op.stringOp .add O (⟨#[10]⟩ ++ s.extract b k.next)).run Tryd.prog w = .ok (.string (O ++ (⟨#[10]⟩ ++ s.extract b k.next))) w := fun w => run_string_add_sum w _ _ (by omega)
            have HO2 : Hid ((O ++ (⟨#[10]⟩ ++ s.extract b k.next)).size ≤ 2 * (i + 1) + k.next) := by show _ ≤ _; rw [ByteArray.size_append]; omega
            have HD2 : Hid ((O ++ ((⟨#[10]⟩ : ByteArray) ++ s.extract b k.next)).data.toList = O.data.toList ++ (sepAt zs n i ++ part s.data.toList b k.next)) := by
              show _ = _
              rw [HSep.out, HPt.out]
              simp [ByteArray.data_append]
              rfl
            clear hs1 hsz1
            go_quiet (fail)
            have hB7 : Below G w2 (W5.drewN nq) := hB6.trans ⟨rfl, rfl, rfl, Nat.le_refl _, fun _ _ => rfl⟩
            have z3 : (W5.drewN nq).cell? ⟨T, 2, none⟩ = some (.int .i64 k.next) := z2
            clear ha1 ha2 i0 hmt hzt
            go_wp2_with fail
            go_roundw
            case rel => exact ⟨i + 1, k.next, _, by omega, hnx, HO2.out, rfl, rfl, by go_num, hB7, HC4.out, by show _ = _; rw [hjo.out, HJn.out, HD2.out]; simp⟩
            case measure => simp [intOf]; omega
          · have i0 : ∀ w, (Instr.index 31 (.agg #[.string ⟨#[32]⟩, .string ⟨#[10]⟩, .string ⟨#[9, 32]⟩, .string ⟨#[13, 10]⟩]) (.int .u8 2)).run Tryd.prog w = .ok (.string ⟨#[9, 32]⟩) w := fun _ => by kernel_rfl
            rw [hd] at hzt HSep
            have hs1 : (⟨#[9, 32]⟩ : ByteArray).size ≤ 2 := by decide
            have ha1 : ∀ w, (Op.stringOp .add ⟨#[9, 32]⟩ (s.extract b k.next)).run Tryd.prog w = .ok (.string (⟨#[9, 32]⟩ ++ s.extract b k.next)) w := fun w => run_string_add_sum w _ _ (by rw [HXs.out]; omega)
            have hsz1 : ((⟨#[9, 32]⟩ : ByteArray) ++ s.extract b k.next).size ≤ 2 + (k.next - b) := by rw [ByteArray.size_append, HXs.out]; omega
            have ha2 : ∀ w, (Op.stringOp .add O (⟨#[9, 32]⟩ ++ s.extract b k.next)).run Tryd.prog w = .ok (.string (O ++ (⟨#[9, 32]⟩ ++ s.extract b k.next))) w := fun w => run_string_add_sum w _ _ (by omega)
            have HO2 : Hid ((O ++ (⟨#[9, 32]⟩ ++ s.extract b k.next)).size ≤ 2 * (i + 1) + k.next) := by show _ ≤ _; rw [ByteArray.size_append]; omega
            have HD2 : Hid ((O ++ ((⟨#[9, 32]⟩ : ByteArray) ++ s.extract b k.next)).data.toList = O.data.toList ++ (sepAt zs n i ++ part s.data.toList b k.next)) := by
              show _ = _
              rw [HSep.out, HPt.out]
              simp [ByteArray.data_append]
              rfl
            clear hs1 hsz1
            go_quiet (fail)
            have hB7 : Below G w2 (W5.drewN nq) := hB6.trans ⟨rfl, rfl, rfl, Nat.le_refl _, fun _ _ => rfl⟩
            have z3 : (W5.drewN nq).cell? ⟨T, 2, none⟩ = some (.int .i64 k.next) := z2
            clear ha1 ha2 i0 hmt hzt
            go_wp2_with fail
            go_roundw
            case rel => exact ⟨i + 1, k.next, _, by omega, hnx, HO2.out, rfl, rfl, by go_num, hB7, HC4.out, by show _ = _; rw [hjo.out, HJn.out, HD2.out]; simp⟩
            case measure => simp [intOf]; omega
          · have i0 : ∀ w, (Instr.index 31 (.agg #[.string ⟨#[32]⟩, .string ⟨#[10]⟩, .string ⟨#[9, 32]⟩, .string ⟨#[13, 10]⟩]) (.int .u8 3)).run Tryd.prog w = .ok (.string ⟨#[13, 10]⟩) w := fun _ => by kernel_rfl
            rw [hd] at hzt HSep
            have hs1 : (⟨#[13, 10]⟩ : ByteArray).size ≤ 2 := by decide
            have ha1 : ∀ w, (Op.stringOp .add ⟨#[13, 10]⟩ (s.extract b k.next)).run Tryd.prog w = .ok (.string (⟨#[13, 10]⟩ ++ s.extract b k.next)) w := fun w => run_string_add_sum w _ _ (by rw [HXs.out]; omega)
            have hsz1 : ((⟨#[13, 10]⟩ : ByteArray) ++ s.extract b k.next).size ≤ 2 + (k.next - b) := by rw [ByteArray.size_append, HXs.out]; omega
            have ha2 : ∀ w, (Op.stringOp .add O (⟨#[13, 10]⟩ ++ s.extract b k.next)).run Tryd.prog w = .ok (.string (O ++ (⟨#[13, 10]⟩ ++ s.extract b k.next))) w := fun w => run_string_add_sum w _ _ (by omega)
            have HO2 : Hid ((O ++ (⟨#[13, 10]⟩ ++ s.extract b k.next)).size ≤ 2 * (i + 1) + k.next) := by show _ ≤ _; rw [ByteArray.size_append]; omega
            have HD2 : Hid ((O ++ ((⟨#[13, 10]⟩ : ByteArray) ++ s.extract b k.next)).data.toList = O.data.toList ++ (sepAt zs n i ++ part s.data.toList b k.next)) := by
              show _ = _
              rw [HSep.out, HPt.out]
              simp [ByteArray.data_append]
              rfl
            clear hs1 hsz1
            go_quiet (fail)
            have hB7 : Below G w2 (W5.drewN nq) := hB6.trans ⟨rfl, rfl, rfl, Nat.le_refl _, fun _ _ => rfl⟩
            have z3 : (W5.drewN nq).cell? ⟨T, 2, none⟩ = some (.int .i64 k.next) := z2
            clear ha1 ha2 i0 hmt hzt
            go_wp2_with fail
            go_roundw
            case rel => exact ⟨i + 1, k.next, _, by omega, hnx, HO2.out, rfl, rfl, by go_num, hB7, HC4.out, by show _ = _; rw [hjo.out, HJn.out, HD2.out]; simp⟩
            case measure => simp [intOf]; omega
        · have t5 : decide ((i : Int) < (N : Int)) = false := by simp; omega
          have t5' : ¬ i < N := hlt
          have t5n : decide (i < N) = false := by simp; omega
          have hiN : i = N := by omega
          have hOj : joinB s.data.toList (sepAt zs n) 0 0 ks = O.data.toList := by
            have := hjo.out
            rw [List.drop_of_length_le (by rw [HN.out]; omega)] at this
            rw [this]
            exact List.append_nil _
          have ha0 := tokens_zero (l := s.data.toList) (by rw [hq.out]; exact H0.out)
          rw [hq.out] at ha0
          have hcc := HC.out
          rw [← HL.out] at hcc
          have hjl := joinB_len s.data.toList (sepAt zs n) (fun i => sepB_len _) ks 0 0 (Nat.zero_le _) hcc
          rw [HN.out, HL.out] at hjl
          obtain ⟨ks', e1, e2⟩ := HJ.out ks (by rw [H0.out]; exact congrArg (fun x => (ks, x, (0 : Int))) ha0) (by rw [List.length_append]; simp; omega)
          have hO2 : (O ++ (⟨#[32]⟩ : ByteArray)).data.toList = joinB s.data.toList (sepAt zs n) 0 0 ks ++ [32] := by rw [hOj]; simp [ByteArray.data_append]
          have hA3 := HAll.out (O ++ ⟨#[32]⟩)
          rw [hO2, e1] at hA3
          have HA3 := Lib.hid hA3
          have hsp : ∀ w, (Op.stringOp .add O ⟨#[32]⟩).run Tryd.prog w = .ok (.string (O ++ ⟨#[32]⟩)) w := fun w => run_string_add_sum w _ _ (by have : (⟨#[32]⟩ : ByteArray).size = 1 := rfl; omega)
          have hlen' := e2.len
          rw [HN.out] at hlen'
          have HLk := Lib.hid (fun i hi => e2.get i hi)
          rw [HN.out] at HLk
          have hE3 : Env wr := hE2.below (by rw [HG.out]; exact hB)
          clear hA3 hO2 e1 e2 hOj hjl hcc ha0 hiN
          generalize O ++ (⟨#[32]⟩ : ByteArray) = Q at *
          go_wp2_with fail
          clear hsp
          refine (HA3.out _ hE3).mono ?_; rintro e3 w3 ⟨v3, rfl, k3, hT3⟩
          have hw3 : Below w.heap.size w w3 := (h2.trans (hB.mono hwG)).trans (k3.mono (by omega))
          dsimp only at hT3 ⊢
          rw [show (((0 : Nat)) : Int) = 0 from rfl]
          obtain ⟨g', vc', hvv', hg', hc'⟩ := hT3.form (by omega)
          subst hvv'
          rw [← hlen'] at hc' ⊢
          have HC3 := Lib.hid hc'
          clear hlen'
          have hgw : g < wr.heap.size := by omega
          have HCg : Hid (∀ i j, i < N → j < 6 → w3.cell? ⟨g, i * 6 + j, none⟩ = (tokCells (ks.getD i noTk))[j]?) := fun i j h1 h2 => (k3.cell (p := ⟨g, i * 6 + j, none⟩) hgw).trans ((hB.cell (p := ⟨g, i * 6 + j, none⟩) hg).trans (HCc.out i j h1 h2))
          have hgw3 : g < w3.heap.size := by have := k3.size; omega
          clear hc' hT3 hgw
          go_wp2_with fail
          simp only [t5n]
          have hB8 := Below.refl w3.heap.size w3
          generalize hK : w3.heap.size = K at *
          have HK := Lib.hid hK; clear hK
          have hwK : w.heap.size ≤ K := by have := hw3.size; rw [HK.out] at this; exact this
          go_loopw [90] (fun iv wq => ∃ i : Nat, i ≤ N ∧ iv = .int .i64 i ∧ Below K w3 wq) (fun iv _ => N - (intOf iv).toNat)
          case atStart => exact ⟨0, by omega, rfl, hB8⟩
          case round =>
            clear hB8 hB
            obtain ⟨i, hi, rfl, hB⟩ := hrel
            have hKq : K ≤ wr.heap.size := by have := hB.size; rw [HK.out] at this; exact this
            by_cases hlt : i < N
            · have t6 : decide ((i : Int) < (N : Int)) = true := by simp; omega
              obtain ⟨l1, l2, l3, l4⟩ := HLk.out i hlt
              have x0 : wr.cell? ⟨g, i * 6, none⟩ = some (.int .i64 (ks.getD i noTk).kind) := (hB.cell (p := ⟨g, i * 6 + 0, none⟩) (by show g < K; omega)).trans (HCg.out i 0 hlt (by decide))
              have x1 : wr.cell? ⟨g, i * 6 + 1, none⟩ = some (.int .i64 (ks.getD i noTk).pos) := (hB.cell (p := ⟨g, i * 6 + 1, none⟩) (by show g < K; omega)).trans (HCg.out i 1 hlt (by decide))
              have x2 : wr.cell? ⟨g, i * 6 + 2, none⟩ = some (.int .i64 (ks.getD i noTk).next) := (hB.cell (p := ⟨g, i * 6 + 2, none⟩) (by show g < K; omega)).trans (HCg.out i 2 hlt (by decide))
              have x3 : wr.cell? ⟨g, i * 6 + 3, none⟩ = some (.int .i64 (ks.getD i noTk).num) := (hB.cell (p := ⟨g, i * 6 + 3, none⟩) (by show g < K; omega)).trans (HCg.out i 3 hlt (by decide))
              have x4 : wr.cell? ⟨g, i * 6 + 4, none⟩ = some (.float .f64 (ks.getD i noTk).flt) := (hB.cell (p := ⟨g, i * 6 + 4, none⟩) (by show g < K; omega)).trans (HCg.out i 4 hlt (by decide))
              have x5 : wr.cell? ⟨g, i * 6 + 5, none⟩ = some (.string ⟨(ks.getD i noTk).str.toArray⟩) := (hB.cell (p := ⟨g, i * 6 + 5, none⟩) (by show g < K; omega)).trans (HCg.out i 5 hlt (by decide))
              have y0 : wr.cell? ⟨g', i * 6, none⟩ = some (.int .i64 (ks'.getD i noTk).kind) := (hB.cell (p := ⟨g', i * 6 + 0, none⟩) (by show g' < K; omega)).trans (HC3.out i 0 hlt (by decide))
              have y1 : wr.cell? ⟨g', i * 6 + 1, none⟩ = some (.int .i64 (ks'.getD i noTk).pos) := (hB.cell (p := ⟨g', i * 6 + 1, none⟩) (by show g' < K; omega)).trans (HC3.out i 1 hlt (by decide))
              have y2 : wr.cell? ⟨g', i * 6 + 2, none⟩ = some (.int .i64 (ks'.getD i noTk).next) := (hB.cell (p := ⟨g', i * 6 + 2, none⟩) (by show g' < K; omega)).trans (HC3.out i 2 hlt (by decide))
              have y3 : wr.cell? ⟨g', i * 6 + 3, none⟩ = some (.int .i64 (ks'.getD i noTk).num) := (hB.cell (p := ⟨g', i * 6 + 3, none⟩) (by show g' < K; omega)).trans (HC3.out i 3 hlt (by decide))
              have y4 : wr.cell? ⟨g', i * 6 + 4, none⟩ = some (.float .f64 (ks'.getD i noTk).flt) := (hB.cell (p := ⟨g', i * 6 + 4, none⟩) (by show g' < K; omega)).trans (HC3.out i 4 hlt (by decide))
              have y5 : wr.cell? ⟨g', i * 6 + 5, none⟩ = some (.string ⟨(ks'.getD i noTk).str.toArray⟩) := (hB.cell (p := ⟨g', i * 6 + 5, none⟩) (by show g' < K; omega)).trans (HC3.out i 5 hlt (by decide))
              rw [← l1] at y0
              rw [← l2] at y3
              rw [← l3] at y4
              rw [← l4] at y5
              clear l1 l2 l3 l4
              generalize ks.getD i noTk = k at *
              generalize (ks'.getD i noTk).pos = kp at *
              generalize (ks'.getD i noTk).next = kn at *
              have b1 : (0 : Int) ≤ (i : Int) := by omega
              have b2 : (i : Int) < (N : Int) := by omega
              go_upto_region 20 with (fail)
              have hSm := rsame_any k.flt k.flt
              simp only [decide_true] at hSm
              have HSm := Lib.hid hSm
              clear hSm
              have HKp : Hid (∀ w', Below wr.heap.size wr w' → (w'.cell? ⟨g, i * 6, none⟩ = some (.int .i64 k.kind) ∧ w'.cell? ⟨g, i * 6 + 1, none⟩ = some (.int .i64 k.pos) ∧ w'.cell? ⟨g, i * 6 + 2, none⟩ = some (.int .i64 k.next) ∧ w'.cell? ⟨g, i * 6 + 3, none⟩ = some (.int .i64 k.num) ∧ w'.cell? ⟨g, i * 6 + 4, none⟩ = some (.float .f64 k.flt) ∧ w'.cell? ⟨g, i * 6 + 5, none⟩ = some (.string ⟨k.str.toArray⟩) ∧ w'.cell? ⟨g', i * 6, none⟩ = some (.int .i64 k.kind) ∧ w'.cell? ⟨g', i * 6 + 1, none⟩ = some (.int .i64 kp) ∧ w'.cell? ⟨g', i * 6 + 2, none⟩ = some (.int .i64 kn) ∧ w'.cell? ⟨g', i * 6 + 3, none⟩ = some (.int .i64 k.num) ∧ w'.cell? ⟨g', i * 6 + 4, none⟩ = some (.float .f64 k.flt) ∧ w'.cell? ⟨g', i * 6 + 5, none⟩ = some (.string ⟨k.str.toArray⟩))) := fun w' hb => ⟨(hb.cell (p := ⟨g, i * 6, none⟩) (by show g < wr.heap.size; omega)).trans x0, (hb.cell (p := ⟨g, i * 6 + 1, none⟩) (by show g < wr.heap.size; omega)).trans x1, (hb.cell (p := ⟨g, i * 6 + 2, none⟩) (by show g < wr.heap.size; omega)).trans x2, (hb.cell (p := ⟨g, i * 6 + 3, none⟩) (by show g < wr.heap.size; omega)).trans x3, (hb.cell (p := ⟨g, i * 6 + 4, none⟩) (by show g < wr.heap.size; omega)).trans x4, (hb.cell (p := ⟨g, i * 6 + 5, none⟩) (by show g < wr.heap.size; omega)).trans x5, (hb.cell (p := ⟨g', i * 6, none⟩) (by show g' < wr.heap.size; omega)).trans y0, (hb.cell (p := ⟨g', i * 6 + 1, none⟩) (by show g' < wr.heap.size; omega)).trans y1, (hb.cell (p := ⟨g', i * 6 + 2, none⟩) (by show g' < wr.heap.size; omega)).trans y2, (hb.cell (p := ⟨g', i * 6 + 3, none⟩) (by show g' < wr.heap.size; omega)).trans y3, (hb.cell (p := ⟨g', i * 6 + 4, none⟩) (by show g' < wr.heap.size; omega)).trans y4, (hb.cell (p := ⟨g', i * 6 + 5, none⟩) (by show g' < wr.heap.size; omega)).trans y5⟩
              go_region_held3 (fun w' => w'.cell? ⟨g, i * 6, none⟩ = some (.int .i64 k.kind) ∧ w'.cell? ⟨g, i * 6 + 1, none⟩ = some (.int .i64 k.pos) ∧ w'.cell? ⟨g, i * 6 + 2, none⟩ = some (.int .i64 k.next) ∧ w'.cell? ⟨g, i * 6 + 3, none⟩ = some (.int .i64 k.num) ∧ w'.cell? ⟨g, i * 6 + 4, none⟩ = some (.float .f64 k.flt) ∧ w'.cell? ⟨g, i * 6 + 5, none⟩ = some (.string ⟨k.str.toArray⟩) ∧ w'.cell? ⟨g', i * 6, none⟩ = some (.int .i64 k.kind) ∧ w'.cell? ⟨g', i * 6 + 1, none⟩ = some (.int .i64 kp) ∧ w'.cell? ⟨g', i * 6 + 2, none⟩ = some (.int .i64 kn) ∧ w'.cell? ⟨g', i * 6 + 3, none⟩ = some (.int .i64 k.num) ∧ w'.cell? ⟨g', i * 6 + 4, none⟩ = some (.float .f64 k.flt) ∧ w'.cell? ⟨g', i * 6 + 5, none⟩ = some (.string ⟨k.str.toArray⟩)) (first | exact ⟨x0, x1, x2, x3, x4, x5, y0, y1, y2, y3, y4, y5⟩ | exact HKp.out _ (by repeat (first | exact Below.refl _ _ | refine Below.drew ?_ | refine Below.setCell ?_ (by simp) _ | refine Below.alloc ?_ (by simp) _))) (fail)
              all_goals
                go_wp2_with fail
                refine (HSm.out _).mono ?_; rintro e5 w5 ⟨rfl, rfl⟩
                go_wp2_with fail
                go_roundw
                case rel => exact ⟨i + 1, by omega, by go_num, ((hB.alloc hKq _).alloc (by simp; omega) _).drew⟩
                case measure => simp [intOf]; omega
            · have t6 : decide ((i : Int) < (N : Int)) = false := by simp; omega
              have t6' : ¬ i < N := hlt
              go_wp2_with fail
              go_ret
              exact ⟨rfl, hw3.trans (hB.mono hwK)⟩
  · have t4 : (e != 0) = true := by rw [bne_iff_ne]; exact h0
    clear h0 HCh
    go_enter Tryd.func3, Tryd.ntmps3
    go_wp2_with fail
    refine (HA.out _ hE).mono ?_; rintro e1 w1 ⟨rfl, h1⟩
    go_wp2_with fail
    refine (HAs.out _ (hE.below h1)).mono ?_; rintro e2 w2 ⟨v, rfl, k2, hT2⟩
    have h2 := below_tr h1 k2
    dsimp only
    go_wp2_with fail
    go_ret
    exact ⟨rfl, h2⟩
end Go.Proofs.YtkcbkfflabkcgaaDoor
