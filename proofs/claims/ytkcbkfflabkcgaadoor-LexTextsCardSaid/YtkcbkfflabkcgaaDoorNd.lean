/-
  The walks of the references' Name and Quote.
-/
import Derived.Test.YtkcbkfflabkcgaaDoorNc
import Derived.Test.YtkcbkfflabkcgaaDoorKg
namespace Go.Proofs.YtkcbkfflabkcgaaDoor
open Go.RowKit

/-- so far it may be a name -/
def NmTo (l : List UInt8) (k : Nat) : Prop := (k = 0 ∨ isLet (l.getD 0 0) = true) ∧ (l.take k).all isNm = true
theorem NmTo.zero (l : List UInt8) : NmTo l 0 := ⟨.inl rfl, rfl⟩
theorem NmTo.step {l : List UInt8} {k : Nat} (h : NmTo l k) (hk : k < l.length) (hn : isNm (l.getD k 0) = true) (h0 : k ≠ 0 ∨ isLet (l.getD k 0) = true) : NmTo l (k + 1) := by
  have e : l.getD k 0 = l[k] := by simp [List.getD, hk]
  refine ⟨.inr ?_, ?_⟩
  · rcases Nat.eq_zero_or_pos k with rfl | hp
    · rcases h0 with h0 | h0
      · exact absurd rfl h0
      · exact h0
    · rcases h.1 with h1 | h1
      · omega
      · exact h1
  · rw [List.take_succ_eq_append_getElem hk, List.all_append, h.2, ← e, List.all_cons, hn]
    rfl
theorem NmTo.whole {l : List UInt8} (h : NmTo l l.length) (h1 : 1 ≤ l.length) (h2 : l.length ≤ 30) : nameB l = true := by
  unfold nameB
  have h3 := h.2
  rw [List.take_length] at h3
  rcases h.1 with h0 | h0
  · omega
  · rw [h0, h3, decide_eq_true (show 1 ≤ l.length ∧ l.length ≤ 30 from ⟨h1, h2⟩)]; rfl
theorem nameB_no {l : List UInt8} {k : Nat} (hk : k < l.length) (hn : isNm (l.getD k 0) = false) : nameB l = false := by
  have e : l.getD k 0 = l[k] := by simp [List.getD, hk]
  have : l.all isNm = false := by
    rw [← Bool.not_eq_true, List.all_eq_true]
    intro h
    have := h _ (List.getElem_mem hk)
    rw [← e, hn] at this
    cases this
  unfold nameB
  rw [this, Bool.and_false]
theorem nameB_no0 {l : List UInt8} (hn : isLet (l.getD 0 0) = false) : nameB l = false := by
  unfold nameB
  rw [hn, Bool.and_false, Bool.false_and]
theorem nameB_len {l : List UInt8} (h : ¬ (1 ≤ l.length ∧ l.length ≤ 30)) : nameB l = false := by
  unfold nameB
  rw [decide_eq_false h, Bool.false_and, Bool.false_and]

set_option maxRecDepth 100000 in
set_option maxHeartbeats 4000000 in
theorem rname4_any (s : ByteArray) (w : World) : Calls Tryd.prog 12 #[.string s] w fun e w' => e = .returned (.bool (nameB s.data.toList)) ∧ w = w' := by
  have hl : s.data.toList.length = s.size := by simp
  have HL := Lib.hid hl; clear hl
  by_cases h1 : s.size < 1
  · have t1 : decide ((s.size : Int) < 1) = true := by simp; omega
    have HX := Lib.hid (nameB_len (l := s.data.toList) (by rw [HL.out]; omega))
    go_enter Tryd.func12, Tryd.ntmps12
    go_wp2_with fail
    go_ret
    exact ⟨ret_val (by rw [HX.out]; rfl), rfl⟩
  · have t1 : decide ((s.size : Int) < 1) = false := by simp; omega
    by_cases h2 : 30 < s.size
    · have t2 : decide ((30 : Int) < (s.size : Int)) = true := by simp; omega
      have HX := Lib.hid (nameB_len (l := s.data.toList) (by rw [HL.out]; omega))
      go_enter Tryd.func12, Tryd.ntmps12
      go_wp2_with fail
      go_ret
      exact ⟨ret_val (by rw [HX.out]; rfl), rfl⟩
    · have t2 : decide ((30 : Int) < (s.size : Int)) = false := by simp; omega
      have t2' : ¬ 30 < s.size := h2
      go_enter Tryd.func12, Tryd.ntmps12
      go_wp2_with fail
      go_loop [3] (fun kv => ∃ k : Nat, k ≤ s.size ∧ kv = .int .i64 k ∧ NmTo s.data.toList k) (fun kv => s.size - (intOf kv).toNat)
      case atStart => exact ⟨0, Nat.zero_le _, rfl, NmTo.zero _⟩
      case round =>
        obtain ⟨k, hk, rfl, hnm⟩ := hrel
        by_cases hlt : k < s.size
        · have t0 : decide ((k : Int) < (s.size : Int)) = true := by simp; omega
          have hg0 : s.data.toList.getD k 0 = s[k]'hlt := by simp [List.getD, hlt]; rfl
          have HStep := Lib.hid (fun hn h0 => hnm.step (by rw [HL.out]; exact hlt) hn h0)
          have HNo := Lib.hid (fun hn => nameB_no (l := s.data.toList) (k := k) (by rw [HL.out]; exact hlt) hn)
          rw [hg0] at HStep HNo
          have hN0 : isLet (s[k]'hlt) = false → k = 0 → nameB s.data.toList = false := by
            intro h hk0
            refine nameB_no0 ?_
            rw [← hg0] at h
            rw [hk0] at h
            exact h
          have HNo0 := Lib.hid hN0
          clear hnm hg0 hN0
          have hLt : isLet (s[k]'hlt) = (decide ((97 : Int) ≤ ((s[k]'hlt).toNat : Int)) && decide (((s[k]'hlt).toNat : Int) ≤ 122)) := by
            unfold isLet
            rw [Bool.eq_iff_iff]; simp; omega
          have hDg : isDig (s[k]'hlt) = (decide ((48 : Int) ≤ ((s[k]'hlt).toNat : Int)) && decide (((s[k]'hlt).toNat : Int) ≤ 57)) := by
            show decide (48 ≤ (s[k]'hlt).toNat ∧ (s[k]'hlt).toNat ≤ 57) = _
            rw [Bool.eq_iff_iff]; simp; omega
          have hNm : isNm (s[k]'hlt) = (isLet (s[k]'hlt) || isDig (s[k]'hlt) || ((s[k]'hlt).toNat : Int) == 95) := by unfold isNm; rw [u8_beq (s[k]'hlt) 95]; rfl
          rw [hLt, hDg] at hNm
          have HNm := Lib.hid hNm
          have HLt := Lib.hid hLt
          clear hNm hLt hDg
          cases a1 : decide ((97 : Int) ≤ ((s[k]'hlt).toNat : Int)) <;> cases a2 : decide (((s[k]'hlt).toNat : Int) ≤ 122)
          case true.true =>
            rw [a1, a2] at HLt HNm
            have HY := Lib.hid (HStep.out (by rw [HNm.out]; rfl) (.inr (by rw [HLt.out]; rfl)))
            go_wp2_with fail
            go_round
            case rel => exact ⟨k + 1, by omega, by go_num, HY.out⟩
            case measure => simp [intOf]; omega
          all_goals
            rw [a1, a2] at HLt HNm
            by_cases hk0 : k = 0
            · have HX := Lib.hid (HNo0.out (by rw [HLt.out]; rfl) hk0)
              have tk : ((k : Int) == 0) = true := by rw [hk0]; rfl
              clear hk0
              go_wp2_with fail
              go_ret
              exact ⟨ret_val (by rw [HX.out]; rfl), rfl⟩
            · have tk : ((k : Int) == 0) = false := by rw [beq_eq_false_iff_ne]; omega
              cases a3 : decide ((48 : Int) ≤ ((s[k]'hlt).toNat : Int)) <;> cases a4 : decide (((s[k]'hlt).toNat : Int) ≤ 57)
              case neg.true.true =>
                rw [a3, a4] at HNm
                have HY := Lib.hid (HStep.out (by rw [HNm.out]; rfl) (.inl hk0))
                go_wp2_with fail
                go_round
                case rel => exact ⟨k + 1, by omega, by go_num, HY.out⟩
                case measure => simp [intOf]; omega
              all_goals
                rw [a3, a4] at HNm
                cases a5 : (((s[k]'hlt).toNat : Int) == 95)
                · have a6 : (((s[k]'hlt).toNat : Int) != 95) = true := by rw [bne, a5]; rfl
                  rw [a5] at HNm
                  have HX := Lib.hid (HNo.out (by rw [HNm.out]; rfl))
                  go_wp2_with fail
                  go_ret
                  exact ⟨ret_val (by rw [HX.out]; rfl), rfl⟩
                · have a6 : (((s[k]'hlt).toNat : Int) != 95) = false := by rw [bne, a5]; rfl
                  rw [a5] at HNm
                  have HY := Lib.hid (HStep.out (by rw [HNm.out]; rfl) (.inl hk0))
                  go_wp2_with fail
                  go_round
                  case rel => exact ⟨k + 1, by omega, by go_num, HY.out⟩
                  case measure => simp [intOf]; omega
        · have t0 : decide ((k : Int) < (s.size : Int)) = false := by simp; omega
          have hks : k = s.size := by omega
          have t0' : ¬ k < s.size := hlt
          rw [hks, ← HL.out] at hnm
          have HX := Lib.hid (hnm.whole (by rw [HL.out]; omega) (by rw [HL.out]; omega))
          clear hks hnm
          go_wp2_with fail
          go_ret
          exact ⟨ret_val (by rw [HX.out]; rfl), rfl⟩

theorem quote_step {l : List UInt8} {k : Nat} (hk : k < l.length) : (l.take (k + 1)).flatMap escB = (l.take k).flatMap escB ++ escB (l.getD k 0) := by
  have e : l.getD k 0 = l[k] := by simp [List.getD, hk]
  rw [List.take_succ_eq_append_getElem hk, List.flatMap_append, e]
  simp
theorem quote_len_to (l : List UInt8) (k : Nat) : ((l.take k).flatMap escB).length ≤ 2 * k := by
  have : ∀ m : List UInt8, (m.flatMap escB).length ≤ 2 * m.length := by
    intro m
    induction m with
    | nil => simp
    | cons c m ih =>
      rw [List.flatMap_cons, List.length_append, List.length_cons]
      have : (escB c).length ≤ 2 := by unfold escB; split <;> simp
      omega
  have h1 := this (l.take k)
  have h2 : (l.take k).length ≤ k := List.length_take_le _ _
  omega

set_option maxRecDepth 100000 in
set_option maxHeartbeats 4000000 in
theorem rquote_any (s : ByteArray) (hs : s.size ≤ 1000) (w : World) : Calls Tryd.prog 13 #[.string s] w fun e w' => e = .returned (.string ⟨(quoteB s.data.toList).toArray⟩) ∧ Below w.heap.size w w' := by
  have hl : s.data.toList.length = s.size := by simp
  have HL := Lib.hid hl
  have hQ := quoteB.eq_def s.data.toList
  have HQ := Lib.hid hQ
  clear hl hQ
  have HI : (Tryd.prog.info? 5).map (fun i => (i.zero, i.size, i.bytes)) = some (some (.int .u8 0), 1, 1) := by kernel_rfl
  obtain ⟨i0, hi, hz0, hz1, hz2⟩ := Go.info_parts HI
  have HII := Lib.hid hi
  have HZ0 := Lib.hid hz0
  have HZ1 := Lib.hid hz1
  have HZ2 := Lib.hid hz2
  clear hi hz0 hz1 hz2 HI
  have hB : Below w.heap.size w (w.alloc (.cells #[.int .u8 34] 5)) := (Below.refl _ _).alloc (Nat.le_refl _) _
  have hV : Byts w.heap.size (.slice (some ⟨w.heap.size, 0, none⟩) 1 1) [34] (w.alloc (.cells #[.int .u8 34] 5)) := by
    refine ⟨?_, _, _, rfl⟩
    exact World.ownsRow_lit w #[.int .u8 34] 1 (Nat.le_refl _) (by unfold maxLen; omega) rfl
  have hsz : w.heap.size ≤ (w.alloc (.cells #[.int .u8 34] 5)).heap.size := by simp
  go_enter Tryd.func13, Tryd.ntmps13
  go_wp2_with fail
  generalize w.alloc (.cells #[.int .u8 34] 5) = W0 at *
  generalize hgh : w.heap.size = H at *
  have HH := Lib.hid hgh; clear hgh
  go_loopw [3, 4] (fun v kv wr => ∃ (k : Nat) (V : Value), V = v ∧ k ≤ s.size ∧ kv = .int .i64 k ∧ Below H w wr ∧ H ≤ wr.heap.size ∧ Byts H V (34 :: (s.data.toList.take k).flatMap escB) wr) (fun _ kv _ => s.size - (intOf kv).toNat)
  case atStart => exact ⟨0, _, rfl, Nat.zero_le _, rfl, hB, hsz, by rw [List.take_zero]; exact hV⟩
  case round =>
    clear hB hV hsz
    obtain ⟨k, V, rfl, hk, rfl, hB, hsz, hV⟩ := hrel
    have hlo := quote_len_to s.data.toList k
    by_cases hlt : k < s.size
    · have t0 : decide ((k : Int) < (s.size : Int)) = true := by simp; omega
      have hg0 : s.data.toList.getD k 0 = s[k]'hlt := by simp [List.getD, hlt]; rfl
      have hst := quote_step (l := s.data.toList) (k := k) (by rw [HL.out]; exact hlt)
      rw [hg0] at hst
      have HSt := Lib.hid hst
      clear hst hg0
      generalize ho : (34 :: (s.data.toList.take k).flatMap escB) = o at *
      have hol : o.length ≤ 2 * k + 1 := by rw [← ho, List.length_cons]; omega
      have HO := Lib.hid ho
      clear ho hlo
      by_cases h34 : s[k]'hlt = 34
      · have t1 : (((s[k]'hlt).toNat : Int) == 34) = true := by rw [h34]; rfl
        have he : escB (s[k]'hlt) = [92, s[k]'hlt] := by unfold escB; rw [if_pos (.inl h34)]
        have HE := Lib.hid he
        clear he h34
        have HN1 : Hid (∀ jj u, [Value.int .u8 92][jj]? = some u → (wr.alloc (.cells #[.int .u8 92] 5)).cell? ((⟨wr.heap.size, 0, none⟩ : Addr).add jj) = some u) := by
          intro jj u hjj
          match jj, hjj with
          | 0, hjj => simp at hjj; subst hjj; simp [Addr.add]
        have hB1 := hB.alloc hsz (.cells #[.int .u8 92] 5)
        have hO1 := hV.1.alloc (.cells #[.int .u8 92] 5)
        have hs1 : H ≤ (wr.alloc (.cells #[.int .u8 92] 5)).heap.size := by simp; omega
        have hlen1 : o.length ≤ 1000000 := by omega
        go_wp2_with (at_builtin; refine wpList_append_own _ rfl _ _ 22 rfl H 5 i0 (.int .u8 0) 1 1 Tryd.underlying22 HII.out HZ0.out HZ1.out HZ2.out rfl (by decide) _ o.length (Lib.byteCells o) rfl hO1 ⟨wr.heap.size, 0, none⟩ 1 1 [.int .u8 92] rfl rfl HN1.out (by intro u hu; simp at hu; subst hu; rfl) ?c3 ?c4 ?c5 ?_)
        case c3 => unfold maxLen; omega
        case c4 => omega
        case c5 => exact hs1
        intro v1 w1 hown1 hgrow1 _
        have hBn : Below H w w1 := hB1.grown hgrow1 hs1 (fun g hg => (World.ownsRow.lt hO1 g hg).1)
        have hVn : Byts H v1 (o ++ [92]) w1 := Byts.grow (c := 92) hown1
        have hsn : H ≤ w1.heap.size := Nat.le_trans hs1 hgrow1.size
        clear hB hV hsz hB1 hO1 hs1 hlen1 hown1 hgrow1 HN1
        have hB := hBn; have hV := hVn; have hsz := hsn
        clear hBn hVn hsn
        have hol2 : (o ++ [92]).length ≤ 2 * k + 2 := by rw [List.length_append, List.length_singleton]; omega
        generalize ho2 : o ++ [92] = o2 at *
        have HO2 := Lib.hid ho2; clear ho2
        have HN2 : Hid (∀ jj u, [Value.int .u8 ((s[k]'hlt).toNat : Int)][jj]? = some u → (w1.alloc (.cells #[.int .u8 ((s[k]'hlt).toNat : Int)] 5)).cell? ((⟨w1.heap.size, 0, none⟩ : Addr).add jj) = some u) := by
          intro jj u hjj
          match jj, hjj with
          | 0, hjj => simp at hjj; subst hjj; simp [Addr.add]
        have hB2 := hB.alloc hsz (.cells #[.int .u8 ((s[k]'hlt).toNat : Int)] 5)
        have hO2 := hV.1.alloc (.cells #[.int .u8 ((s[k]'hlt).toNat : Int)] 5)
        have hs2 : H ≤ (w1.alloc (.cells #[.int .u8 ((s[k]'hlt).toNat : Int)] 5)).heap.size := by simp; omega
        have hlen2 : o2.length ≤ 1000000 := by omega
        go_wp2_with (at_builtin; refine wpList_append_own _ rfl _ _ 22 rfl H 5 i0 (.int .u8 0) 1 1 Tryd.underlying22 HII.out HZ0.out HZ1.out HZ2.out rfl (by decide) _ o2.length (Lib.byteCells o2) rfl hO2 ⟨w1.heap.size, 0, none⟩ 1 1 [.int .u8 ((s[k]'hlt).toNat : Int)] rfl rfl HN2.out (by intro u hu; simp at hu; subst hu; rfl) ?c3 ?c4 ?c5 ?_)
        case c3 => unfold maxLen; omega
        case c4 => omega
        case c5 => exact hs2
        intro v2 w2 hown2 hgrow2 _
        have hBn : Below H w w2 := hB2.grown hgrow2 hs2 (fun g hg => (World.ownsRow.lt hO2 g hg).1)
        have hVn : Byts H v2 (o2 ++ [s[k]'hlt]) w2 := Byts.grow (c := s[k]'hlt) hown2
        have hsn : H ≤ w2.heap.size := Nat.le_trans hs2 hgrow2.size
        clear hB hV hsz hB2 hO2 hs2 hlen2 hown2 hgrow2 HN2
        have hB := hBn; have hV := hVn; have hsz := hsn
        clear hBn hVn hsn
        go_wp2_with fail
        go_roundw
        case rel => exact ⟨k + 1, v2, rfl, by omega, by go_num, hB, hsz, by rw [HSt.out, HE.out, ← List.cons_append, HO.out]; rw [← HO2.out, List.append_assoc] at hV; exact hV⟩
        case measure => simp [intOf]; omega
      · have t1 : (((s[k]'hlt).toNat : Int) == 34) = false := by rw [beq_eq_false_iff_ne]; intro e; exact h34 (UInt8.toNat_inj.1 (by show _ = 34; omega))
        by_cases h92 : s[k]'hlt = 92
        · have t2 : (((s[k]'hlt).toNat : Int) == 92) = true := by rw [h92]; rfl
          have he : escB (s[k]'hlt) = [92, s[k]'hlt] := by unfold escB; rw [if_pos (.inr h92)]
          have HE := Lib.hid he
          clear he h34 h92
          have HN1 : Hid (∀ jj u, [Value.int .u8 92][jj]? = some u → (wr.alloc (.cells #[.int .u8 92] 5)).cell? ((⟨wr.heap.size, 0, none⟩ : Addr).add jj) = some u) := by
            intro jj u hjj
            match jj, hjj with
            | 0, hjj => simp at hjj; subst hjj; simp [Addr.add]
          have hB1 := hB.alloc hsz (.cells #[.int .u8 92] 5)
          have hO1 := hV.1.alloc (.cells #[.int .u8 92] 5)
          have hs1 : H ≤ (wr.alloc (.cells #[.int .u8 92] 5)).heap.size := by simp; omega
          have hlen1 : o.length ≤ 1000000 := by omega
          go_wp2_with (at_builtin; refine wpList_append_own _ rfl _ _ 22 rfl H 5 i0 (.int .u8 0) 1 1 Tryd.underlying22 HII.out HZ0.out HZ1.out HZ2.out rfl (by decide) _ o.length (Lib.byteCells o) rfl hO1 ⟨wr.heap.size, 0, none⟩ 1 1 [.int .u8 92] rfl rfl HN1.out (by intro u hu; simp at hu; subst hu; rfl) ?c3 ?c4 ?c5 ?_)
          case c3 => unfold maxLen; omega
          case c4 => omega
          case c5 => exact hs1
          intro v1 w1 hown1 hgrow1 _
          have hBn : Below H w w1 := hB1.grown hgrow1 hs1 (fun g hg => (World.ownsRow.lt hO1 g hg).1)
          have hVn : Byts H v1 (o ++ [92]) w1 := Byts.grow (c := 92) hown1
          have hsn : H ≤ w1.heap.size := Nat.le_trans hs1 hgrow1.size
          clear hB hV hsz hB1 hO1 hs1 hlen1 hown1 hgrow1 HN1
          have hB := hBn; have hV := hVn; have hsz := hsn
          clear hBn hVn hsn
          have hol2 : (o ++ [92]).length ≤ 2 * k + 2 := by rw [List.length_append, List.length_singleton]; omega
          generalize ho2 : o ++ [92] = o2 at *
          have HO2 := Lib.hid ho2; clear ho2
          have HN2 : Hid (∀ jj u, [Value.int .u8 ((s[k]'hlt).toNat : Int)][jj]? = some u → (w1.alloc (.cells #[.int .u8 ((s[k]'hlt).toNat : Int)] 5)).cell? ((⟨w1.heap.size, 0, none⟩ : Addr).add jj) = some u) := by
            intro jj u hjj
            match jj, hjj with
            | 0, hjj => simp at hjj; subst hjj; simp [Addr.add]
          have hB2 := hB.alloc hsz (.cells #[.int .u8 ((s[k]'hlt).toNat : Int)] 5)
          have hO2 := hV.1.alloc (.cells #[.int .u8 ((s[k]'hlt).toNat : Int)] 5)
          have hs2 : H ≤ (w1.alloc (.cells #[.int .u8 ((s[k]'hlt).toNat : Int)] 5)).heap.size := by simp; omega
          have hlen2 : o2.length ≤ 1000000 := by omega
          go_wp2_with (at_builtin; refine wpList_append_own _ rfl _ _ 22 rfl H 5 i0 (.int .u8 0) 1 1 Tryd.underlying22 HII.out HZ0.out HZ1.out HZ2.out rfl (by decide) _ o2.length (Lib.byteCells o2) rfl hO2 ⟨w1.heap.size, 0, none⟩ 1 1 [.int .u8 ((s[k]'hlt).toNat : Int)] rfl rfl HN2.out (by intro u hu; simp at hu; subst hu; rfl) ?c3 ?c4 ?c5 ?_)
          case c3 => unfold maxLen; omega
          case c4 => omega
          case c5 => exact hs2
          intro v2 w2 hown2 hgrow2 _
          have hBn : Below H w w2 := hB2.grown hgrow2 hs2 (fun g hg => (World.ownsRow.lt hO2 g hg).1)
          have hVn : Byts H v2 (o2 ++ [s[k]'hlt]) w2 := Byts.grow (c := s[k]'hlt) hown2
          have hsn : H ≤ w2.heap.size := Nat.le_trans hs2 hgrow2.size
          clear hB hV hsz hB2 hO2 hs2 hlen2 hown2 hgrow2 HN2
          have hB := hBn; have hV := hVn; have hsz := hsn
          clear hBn hVn hsn
          go_wp2_with fail
          go_roundw
          case rel => exact ⟨k + 1, v2, rfl, by omega, by go_num, hB, hsz, by rw [HSt.out, HE.out, ← List.cons_append, HO.out]; rw [← HO2.out, List.append_assoc] at hV; exact hV⟩
          case measure => simp [intOf]; omega
        · have t2 : (((s[k]'hlt).toNat : Int) == 92) = false := by rw [beq_eq_false_iff_ne]; intro e; exact h92 (UInt8.toNat_inj.1 (by show _ = 92; omega))
          have he : escB (s[k]'hlt) = [s[k]'hlt] := by unfold escB; rw [if_neg (by rintro (e | e) <;> contradiction)]
          have HE := Lib.hid he
          clear he h34 h92
          have HN1 : Hid (∀ jj u, [Value.int .u8 ((s[k]'hlt).toNat : Int)][jj]? = some u → (wr.alloc (.cells #[.int .u8 ((s[k]'hlt).toNat : Int)] 5)).cell? ((⟨wr.heap.size, 0, none⟩ : Addr).add jj) = some u) := by
            intro jj u hjj
            match jj, hjj with
            | 0, hjj => simp at hjj; subst hjj; simp [Addr.add]
          have hB1 := hB.alloc hsz (.cells #[.int .u8 ((s[k]'hlt).toNat : Int)] 5)
          have hO1 := hV.1.alloc (.cells #[.int .u8 ((s[k]'hlt).toNat : Int)] 5)
          have hs1 : H ≤ (wr.alloc (.cells #[.int .u8 ((s[k]'hlt).toNat : Int)] 5)).heap.size := by simp; omega
          have hlen1 : o.length ≤ 1000000 := by omega
          go_wp2_with (at_builtin; refine wpList_append_own _ rfl _ _ 22 rfl H 5 i0 (.int .u8 0) 1 1 Tryd.underlying22 HII.out HZ0.out HZ1.out HZ2.out rfl (by decide) _ o.length (Lib.byteCells o) rfl hO1 ⟨wr.heap.size, 0, none⟩ 1 1 [.int .u8 ((s[k]'hlt).toNat : Int)] rfl rfl HN1.out (by intro u hu; simp at hu; subst hu; rfl) ?c3 ?c4 ?c5 ?_)
          case c3 => unfold maxLen; omega
          case c4 => omega
          case c5 => exact hs1
          intro v1 w1 hown1 hgrow1 _
          have hBn : Below H w w1 := hB1.grown hgrow1 hs1 (fun g hg => (World.ownsRow.lt hO1 g hg).1)
          have hVn : Byts H v1 (o ++ [s[k]'hlt]) w1 := Byts.grow (c := s[k]'hlt) hown1
          have hsn : H ≤ w1.heap.size := Nat.le_trans hs1 hgrow1.size
          clear hB hV hsz hB1 hO1 hs1 hlen1 hown1 hgrow1 HN1
          have hB := hBn; have hV := hVn; have hsz := hsn
          clear hBn hVn hsn
          go_wp2_with fail
          go_roundw
          case rel => exact ⟨k + 1, v1, rfl, by omega, by go_num, hB, hsz, by rw [HSt.out, HE.out, ← List.cons_append, HO.out]; exact hV⟩
          case measure => simp [intOf]; omega
    · have t0 : decide ((k : Int) < (s.size : Int)) = false := by simp; omega
      have t0' : ¬ k < s.size := hlt
      have hks : k = s.size := by omega
      have htk : s.data.toList.take k = s.data.toList := List.take_of_length_le (by rw [HL.out]; omega)
      rw [htk] at hV hlo
      have hQ2 := HQ.out
      generalize ho : (34 :: s.data.toList.flatMap escB) = o at *
      have hol : o.length ≤ 2 * k + 1 := by rw [← ho, List.length_cons]; omega
      have HO : Hid (quoteB s.data.toList = o ++ [34]) := by show _ = _; rw [hQ2, ← ho]; rfl
      clear ho hlo htk hks hQ2
      have HN1 : Hid (∀ jj u, [Value.int .u8 34][jj]? = some u → (wr.alloc (.cells #[.int .u8 34] 5)).cell? ((⟨wr.heap.size, 0, none⟩ : Addr).add jj) = some u) := by
        intro jj u hjj
        match jj, hjj with
        | 0, hjj => simp at hjj; subst hjj; simp [Addr.add]
      have hB1 := hB.alloc hsz (.cells #[.int .u8 34] 5)
      have hO1 := hV.1.alloc (.cells #[.int .u8 34] 5)
      have hs1 : H ≤ (wr.alloc (.cells #[.int .u8 34] 5)).heap.size := by simp; omega
      have hlen1 : o.length ≤ 1000000 := by omega
      go_wp2_with (at_builtin; refine wpList_append_own _ rfl _ _ 22 rfl H 5 i0 (.int .u8 0) 1 1 Tryd.underlying22 HII.out HZ0.out HZ1.out HZ2.out rfl (by decide) _ o.length (Lib.byteCells o) rfl hO1 ⟨wr.heap.size, 0, none⟩ 1 1 [.int .u8 34] rfl rfl HN1.out (by intro u hu; simp at hu; subst hu; rfl) ?c3 ?c4 ?c5 ?_)
      case c3 => unfold maxLen; omega
      case c4 => omega
      case c5 => exact hs1
      intro v1 w1 hown1 hgrow1 _
      have hBn : Below H w w1 := hB1.grown hgrow1 hs1 (fun g hg => (World.ownsRow.lt hO1 g hg).1)
      have hVn : Byts H v1 (o ++ [34]) w1 := Byts.grow (c := 34) hown1
      have hsn : H ≤ w1.heap.size := Nat.le_trans hs1 hgrow1.size
      clear hB hV hsz hB1 hO1 hs1 hlen1 hown1 hgrow1 HN1
      have hB := hBn; have hV := hVn; have hsz := hsn
      clear hBn hVn hsn
      have hcv := hV.conv
      go_wp2_with fail
      go_ret
      exact ⟨ret_val (by rw [HO.out]; rfl), by rw [HH.out]; exact hB⟩
end Go.Proofs.YtkcbkfflabkcgaaDoor
