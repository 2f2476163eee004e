/-
  Le3 in one text.
-/
import Derived.Below
import Derived.BigFrame
import Derived.BigQuiet
import Derived.ChangeArms
import Derived.DataReads
import Derived.Deep.AppendLies
import Derived.Deep.AppendSrc
import Derived.Deep.Cut
import Derived.Deep.DeepCutAuto
import Derived.Deep.MidRow
import Derived.Deep.QuietTactic
import Derived.Deep.RegionHeld3
import Derived.Deep.RegionWith
import Derived.Defers
import Derived.Handy
import Derived.IntWalk
import Derived.KernelRfl
import Derived.Laws.Bits64b
import Derived.Laws.FloatBits
import Derived.Laws.Rows
import Derived.Laws.Unary
import Derived.Lib.AtoiAll
import Derived.Lib.Builder
import Derived.Lib.Bytealg
import Derived.Lib.Bytes
import Derived.Lib.ConvBytes
import Derived.Lib.FrozenHead2
import Derived.Lib.Hide
import Derived.Lib.IndexMore
import Derived.Lib.ItoaNum
import Derived.Lib.MinMax
import Derived.Lib.OthersKept
import Derived.Lib.ParseIntB
import Derived.Lib.UnsafeStr
import Derived.LoopTactic
import Derived.OneCell
import Derived.OpenShut
import Derived.OwnWalk
import Derived.ProofKit
import Derived.Recover
import Derived.RegionTactic
import Derived.Scope
import Derived.Shelf.Abstract
import Derived.SizedLaws
import Derived.StillTailTactics
import Derived.Tactics
import Derived.Tactics2
import Derived.Test.YtkbcdlabfbonoaaGreatDoorChecked
import Derived.Test.YtkbcdlabfbonoaaGreatDoorEv3
import Derived.Test.YtkbcdlabfbonoaaGreatDoorEvK
import Derived.Test.YtkbcdlabfbonoaaGreatDoorShelf
import Derived.WalkKit
import Derived.WalkLawsBesides
import Derived.WalkSpells
import Derived.WideShapes
import Ieee.Arith
import Derived.Test.YtkbcdlabfbonoaaGreatDoorS00
import Derived.Test.YtkbcdlabfbonoaaGreatDoorS01
import Derived.Test.YtkbcdlabfbonoaaGreatDoorS02
import Derived.Test.YtkbcdlabfbonoaaGreatDoorS03
import Derived.Test.YtkbcdlabfbonoaaGreatDoorS05
import Derived.Test.YtkbcdlabfbonoaaGreatDoorS06
import Derived.Test.YtkbcdlabfbonoaaGreatDoorS07
import Derived.Test.YtkbcdlabfbonoaaGreatDoorS08
import Derived.Test.YtkbcdlabfbonoaaGreatDoorS11
import Derived.Test.YtkbcdlabfbonoaaGreatDoorS12
import Derived.Test.YtkbcdlabfbonoaaGreatDoorS14
import Derived.Test.YtkbcdlabfbonoaaGreatDoorS16
import Derived.Test.YtkbcdlabfbonoaaGreatDoorS19
import Derived.Test.YtkbcdlabfbonoaaGreatDoorS20
import Derived.Test.YtkbcdlabfbonoaaGreatDoorS21
import Derived.Test.YtkbcdlabfbonoaaGreatDoorS24
import Derived.Test.YtkbcdlabfbonoaaGreatDoorS25
import Derived.Test.YtkbcdlabfbonoaaGreatDoorS26
import Derived.Test.YtkbcdlabfbonoaaGreatDoorS27
import Derived.Test.YtkbcdlabfbonoaaGreatDoorS28
import Derived.Test.YtkbcdlabfbonoaaGreatDoorS29
namespace Go.Proofs.YtkbcdlabfbonoaaGreatDoor
open Go.RowKit
theorem fit_few {l : List AudT} (h : fewB l = true) (hn : ∀ y ∈ l, nmV y.v) : ∀ y ∈ l, fitV y.v := fun y hy => by
  unfold fewB at h
  rw [Bool.and_eq_true] at h
  have hs := List.all_eq_true.1 h.1 y hy
  unfold smallB at hs
  rw [Bool.and_eq_true] at hs
  have hc := of_decide_eq_true hs.2
  rw [countV_psz y.v 0 (by omega)] at hc
  exact fit_of y.v (by omega) (hn y hy)
theorem few_len {l : List AudT} (h : fewB l = true) : l.length ≤ 200 := by
  unfold fewB at h
  rw [Bool.and_eq_true] at h
  exact of_decide_eq_true h.2
mutual
theorem canV_can23 : ∀ v : VT, canV (canV v) = canV v
  | .mk k n f s ns its => by rw [canV, canV, canL_can23 its, canon_canon]
theorem canL_can23 : ∀ l : List VT, canL (canL l) = canL l
  | [] => by rw [canL, canL]
  | x :: l => by rw [canL, canL, canV_can23 x, canL_can23 l]
end
theorem sameL_canM {α : Type} (f : α → VT) : ∀ l : List α, sameL (l.map fun a => canV (f a)) (l.map f) = true
  | [] => rfl
  | x :: l => by
    rw [List.map_cons, List.map_cons, sameL, sameL_canM f l, sameV_can (canV_can23 (f x))]; rfl
/-- the lattice that both make -/
def latN (n : Int) (l : List (Int × Int)) : Nat := if makeE n l = 0 then n.toNat else 0
def latR (n : Int) (l : List (Int × Int)) : Rel := if makeE n l = 0 then War (pairR n.toNat l) n.toNat else fun _ _ => false
theorem leqB_trans {n : Nat} {R : Rel} {x y z : Int} (h1 : leqB n (War R n) x y = true) (h2 : leqB n (War R n) y z = true) : leqB n (War R n) x z = true := by
  unfold leqB at *
  simp only [Bool.and_eq_true, decide_eq_true_eq] at *
  exact ⟨⟨h1.1.1, h2.1.2⟩, War.trans n (by omega) h1.2 h2.2⟩
theorem lat_trans {n : Int} {l : List (Int × Int)} {x y z : Int} (h1 : leqB (latN n l) (latR n l) x y = true) (h2 : leqB (latN n l) (latR n l) y z = true) : leqB (latN n l) (latR n l) x z = true := by
  unfold latN latR at *
  by_cases h : makeE n l = 0
  · simp only [h, if_true] at *
    exact leqB_trans h1 h2
  · simp only [h, if_false] at *
    unfold leqB at h1
    simp at h1
theorem mk_leq {n : Int} {l : List (Int × Int)} {w w' : World} {e : Ending} (h : MkPost n l w e w') : Below w.heap.size w w' ∧ ∃ pa : Option Addr, e = .returned (.tuple #[.pointer pa, .int .i64 (makeE n l)]) ∧
    ∀ (x y : Int) (w2 : World), Below w'.heap.size w' w2 → Calls Tryz.prog 11 #[.pointer pa, .int .i64 x, .int .i64 y] w2 fun e w3 => e = .returned (.bool (leqB (latN n l) (latR n l) x y)) ∧ w2 = w3 := by
  refine ⟨h.1, ?_⟩
  rcases h.2 with ⟨h0, b, rfl, hb, hL⟩ | ⟨h0, rfl⟩
  · refine ⟨_, by rw [h0], fun x y w2 k => ?_⟩
    unfold latN latR
    rw [if_pos h0, if_pos h0]
    exact lLeq_any b n.toNat _ _ x y w2 (hL.of (k.block _ hL.lt))
  · refine ⟨none, rfl, fun x y w2 _ => ?_⟩
    have he : leqB (latN n l) (latR n l) x y = false := by
      unfold latN latR leqB
      rw [if_neg h0, if_neg h0]
      simp
    rw [he]
    exact lLeq_nil x y w2
theorem mq_lev {n : Int} {l : List (Int × Int)} {w w' : World} {e : Ending} (h : MqPost n l w e w') : Below w.heap.size w w' ∧ ∃ cs, e = .returned (.tuple #[.agg cs, .int .i64 (makeE n l)]) ∧ LeV (latN n l) (latR n l) cs := by
  obtain ⟨hb, cs, rfl, h⟩ := h
  refine ⟨hb, cs, rfl, ?_⟩
  unfold latN latR
  rcases h with ⟨h0, h⟩ | ⟨h0, h⟩
  · rw [if_pos h0, if_pos h0]; exact h
  · rw [if_neg h0, if_neg h0]; exact h
theorem SlG.getV {S : Nat → Prop} {d : Nat} {w : World} {p : Option Addr} {n c : Nat} {l : List VT} (h : SlG (valK d) S w (.slice p n c) l) : n = l.length ∧ l.length ≤ 140737488355328 ∧ ∀ i, i < l.length → ∃ g off, p = some ⟨g, off, none⟩ ∧ g < w.heap.size ∧ ∃ ds, ValAt w d (l.getD i noVT) ds ∧ ∀ j, j < 6 → w.cell? ⟨g, off + i * 6 + j, none⟩ = ds[j]? := by
  obtain ⟨p', c', h1, h2, h3⟩ := h
  injection h1 with e1 e2 e3
  subst e1; subst e2
  refine ⟨rfl, h2, fun i hi => ?_⟩
  obtain ⟨g, off, a1, _, a3, ds, a4, a5⟩ := h3 i _ (List.getElem?_eq_getElem hi)
  refine ⟨g, off, a1, a3, ds, ?_, a5⟩
  rw [show l.getD i noVT = l[i] by simp [List.getD, hi]]
  exact ValIn.at a4
theorem same20 {d : Nat} {w : World} {a b : List VT} {va vb : Value} {S T : Nat → Prop} (ha : SlG (valK d) S w va a) (hb : SlG (valK d) T w vb b) : Calls Tryz.prog 9 #[va, vb] w (Gives (.bool (sameL a b)) w) := by
  obtain ⟨p, c, rfl, _⟩ := id ha
  obtain ⟨p', c', rfl, _⟩ := id hb
  obtain ⟨_, hl, ha⟩ := ha.getV
  obtain ⟨_, _, hb⟩ := hb.getV
  exact r20Same_any d d a b p p' c c' w hl ha hb
def seqP (n : Nat) (le : Rel) (l : List AudT) (lv : Int) : List VT := (l.filter fun a => leqB n le a.lv lv).map fun a => canV a.v
def seqR (n : Nat) (le : Rel) (l : List AudT) (lv : Int) : List VT := (l.filter fun a => leqB n le a.lv lv).map (·.v)
theorem same_seq (n : Nat) (le : Rel) (l : List AudT) (lv : Int) : sameL (seqP n le l lv) (seqR n le l lv) = true := sameL_canM (fun a : AudT => a.v) _
theorem found_seq {n : Nat} {le : Rel} {l : List AudT} {lo up : Int} (h : ∀ x, leqB n le x lo = true → leqB n le x up = true) : foundIn sameV noVT (seqP n le l lo) (seqP n le l up) 0 = (seqP n le l lo).length :=
  foundIn_all (f := fun a : AudT => canV a.v) (p := fun a => leqB n le a.lv lo) (q := fun a => leqB n le a.lv up) (fun _ => sameV_can rfl) (fun x hx => h x.lv hx) l
theorem aSeq_any (d : Nat) (pv v : Value) (n : Nat) (le : Rel) (l : List AudT) (level : Int) (w : World) (hw0 : 0 < w.heap.size) (hv : SlG (audK d) (fun _ => True) w v l) (hl : l.length ≤ 1000) (hfit : ∀ x ∈ l, fitV x.v)
    (hleq : ∀ (x y : Int) (w' : World), Below w.heap.size w w' → Calls Tryz.prog 11 #[pv, .int .i64 x, .int .i64 y] w' fun e w'' => e = .returned (.bool (leqB n le x y)) ∧ w' = w'') :
    Calls Tryz.prog 8 #[pv, v, .int .i64 level] w fun e w' => ∃ v', e = .returned v' ∧ SlG (valK d) (fun g => w.heap.size ≤ g) w' v' (seqP n le l level) ∧ Below w.heap.size w w' := aSequence_any d pv v (leqB n le) l level w hw0 hv hl hfit hleq
theorem rSeq_any (d n : Nat) (le : Rel) (cs : Array Value) (hcv : LeV n le cs) (v : Value) (l : List AudT) (level : Int) (w : World) (hv : SlG (audK d) (fun _ => True) w v l) (hl : l.length ≤ 1000) :
    Calls Tryz.prog 10 #[.agg cs, v, .int .i64 level] w fun e w' => ∃ v', e = .returned v' ∧ SlG (valK d) (fun _ => True) w' v' (seqR n le l level) ∧ Below w.heap.size w w' := rSequence_any d n le cs hcv v l level w hv hl
set_option maxRecDepth 100000 in
set_option maxHeartbeats 4000000 in
theorem auditSeq_off (d : Nat) (n : Int) (ov av : Value) (ps : List (Int × Int)) (aus : List AudT) (low up : Int) (w : World) (hp : PairsAt w ps ov) (ha : SlG (audK d) (fun _ => True) w av aus) (ho : 200 < ps.length ∨ fewB aus = false) :
    Calls Tryz.prog 3 #[.int .i64 n, ov, av, .int .i64 low, .int .i64 up] w (Gave (.bool true) w) := by
  have HA := Lib.hid awake23
  have HF := Lib.hid (fun w' (k : Below w.heap.size w w') => few_any d av aus w' (ha.below k))
  obtain ⟨p1, c1, rfl, _, _⟩ := hp
  obtain ⟨p2, c2, rfl, _, _⟩ := ha
  by_cases hN : 200 < ps.length
  · have t1 : decide ((200 : Int) < (ps.length : Int)) = true := by simp; omega
    clear ho
    go_enter Tryz.func3, Tryz.ntmps3
    go_wp2_with fail
    refine (HA.out _).mono ?_; rintro e w1 ⟨rfl, b1⟩
    go_wp2_with fail
    refine (HA.out _).mono ?_; rintro e w2 ⟨rfl, b2⟩
    go_wp2_with fail
    go_ret
    exact ⟨rfl, below_tr' b1 b2⟩
  · have t1 : decide ((200 : Int) < (ps.length : Int)) = false := by simp; omega
    rw [ho.resolve_left hN] at HF
    clear ho
    go_enter Tryz.func3, Tryz.ntmps3
    go_wp2_with fail
    refine (HA.out _).mono ?_; rintro e w1 ⟨rfl, b1⟩
    go_wp2_with fail
    refine (HF.out _ b1).mono ?_; rintro e w2 ⟨rfl, b2⟩
    go_wp2_with fail
    refine (HA.out _).mono ?_; rintro e w3 ⟨rfl, b3⟩
    go_wp2_with fail
    go_ret
    exact ⟨rfl, below_tr' (below_tr' b1 b2) b3⟩
set_option maxRecDepth 100000 in
set_option maxHeartbeats 4000000 in
theorem auditSeq_on (d : Nat) (n : Int) (ov av : Value) (ps : List (Int × Int)) (aus : List AudT) (low up : Int) (w : World) (hp : PairsAt w ps ov) (ha : SlG (audK d) (fun _ => True) w av aus) (hnm : ∀ y ∈ aus, nmV y.v) (hN : ps.length ≤ 200) (hf : fewB aus = true) :
    Calls Tryz.prog 3 #[.int .i64 n, ov, av, .int .i64 low, .int .i64 up] w (Gave (.bool true) w) := by
  have HA := Lib.hid awake23
  have HF := Lib.hid (fun w' (k : Below w.heap.size w w') => few_any d av aus w' (ha.below k))
  rw [hf] at HF
  have HFit := Lib.hid (fit_few hf hnm)
  have HLen := Lib.hid (few_len hf)
  have HAu := Lib.hid (fun w' (k : Below w.heap.size w w') => ha.below k)
  have HPr := Lib.hid (fun w' (k : Below w.heap.size w w') => hp.kept k)
  have HLm := Lib.hid (fun v w h => lMake_any n v ps w h)
  have HRm := Lib.hid (fun v w h => rMake_any n v ps w h)
  have HTr := Lib.hid (fun x y z h1 h2 => lat_trans (n := n) (l := ps) (x := x) (y := y) (z := z) h1 h2)
  obtain ⟨p1, c1, rfl, _, _⟩ := hp
  obtain ⟨p2, c2, rfl, _, _⟩ := ha
  have t1 : decide ((200 : Int) < (ps.length : Int)) = false := by simp; omega
  clear hf hnm
  go_enter Tryz.func3, Tryz.ntmps3
  go_wp2_with fail
  refine (HA.out _).mono ?_; rintro e w1 ⟨rfl, b1⟩
  go_wp2_with fail
  refine (HF.out _ b1).mono ?_; rintro e w2 ⟨rfl, b2⟩
  have b02 := below_tr' b1 b2
  clear b1 b2 HF HA
  have HO := Lib.hid (World.ownsRow_made (base := w2.heap.size) (e := 47) (size := 2) w2 #[] 0 (Nat.le_refl _) (by unfold maxLen; omega) rfl)
  have HB0 := Lib.hid ((Below.refl w2.heap.size w2).alloc (Nat.le_refl _) (.cells #[] 47))
  have HV1 := Lib.hid (HPr.out w2 b02)
  go_wp2_with (at_builtin; refine wpList_pappend rfl _ _ rfl (w0 := w2) rfl rfl HB0.out HV1.out HO.out (by omega) ?_; intro pv2 w3 hpv bb3)
  have b03 := below_tr' b02 bb3
  clear HO HB0 HV1 bb3 b02
  refine (HLm.out _ _ hpv).mono ?_; intro e w4 hmk
  obtain ⟨b4, pa, rfl, hleq⟩ := mk_leq hmk
  have b04 := below_tr' b03 b4
  clear hmk hpv b4 b03 HLm
  generalize makeE n ps = E0 at *
  go_wp2_with fail
  refine (HRm.out _ _ (HPr.out w4 b04)).mono ?_; intro e w5 hmq
  obtain ⟨b5, cs, rfl, hcv⟩ := mq_lev hmq
  generalize latN n ps = LN at *
  generalize latR n ps = LR at *
  have b05 := below_tr' b04 b5
  clear hmq HRm HPr
  have hsz := hcv.1
  have hone := hcv.one
  go_upto_region 5 with (refine wpList_rown rfl rfl rfl rfl rfl (n := 65) (by kernel_rfl) (heap_alloc_new _ _) hsz zc_size hone ?_; intro w6 hg6 FF6)
  have b56 : Below w5.heap.size w5 w6 := (((Fr.refl [w5.heap.size] w5).alloc _).trans FF6).below (Nat.le_refl _) (by simp)
  have b06 := below_tr' b05 b56
  have b46 := below_tr' b5 b56
  have hl6 : 0 < w6.heap.size := Nat.lt_of_le_of_lt (Nat.zero_le _) (lt_of_block hg6)
  have HSq := Lib.hid (fun lv w' (k : Below w6.heap.size w6 w') => aSeq_any d (.pointer pa) _ LN LR aus lv w' (Nat.lt_of_lt_of_le hl6 k.size) (HAu.out w' (below_tr' b06 k)) (by have := HLen.out; omega) HFit.out (fun x y w2 k2 => hleq x y w2 (below_tr' b46 (below_tr' k k2))))
  have HLq := Lib.hid (fun x y w' (k : Below w6.heap.size w6 w') => hleq x y w' (below_tr' b46 k))
  have HRs := Lib.hid (fun lv w' (k : Below w6.heap.size w6 w') => rSeq_any d LN LR cs hcv _ aus lv w' (HAu.out w' (below_tr' b06 k)) (by have := HLen.out; omega))
  have HSm := Lib.hid (same_seq LN LR aus low)
  have HFd := Lib.hid (fun (h : leqB LN LR low up = true) => found_seq (l := aus) (fun x hx => HTr.out x low up hx h))
  have HG := Lib.hid hg6
  have HGl := Lib.hid (lt_of_block hg6)
  clear hg6 hl6 b46 b56 b05 b5 b04 FF6 hleq hcv hone HAu HFit HLen HTr
  go_wp2_with fail
  refine (HSq.out low w6 (Below.refl _ _)).mono ?_; rintro e w7 ⟨v7, rfl, hA, b7⟩
  go_wp2_with fail
  refine (HSq.out up w7 b7).mono ?_; rintro e w8 ⟨v8, rfl, hB, b8⟩
  clear HSq
  generalize seqP LN LR aus low = A at *
  generalize seqP LN LR aus up = B at *
  obtain ⟨pA, cA, rfl, hlA, _⟩ := id hA
  obtain ⟨pB, cB, rfl, hlB, _⟩ := id hB
  have b68 := below_tr' b7 b8
  have hg8 := (b68.block _ HGl.out).trans HG.out
  have HA8 := Lib.hid (fun w' (k : Below w8.heap.size w8 w') => (hA.below b8).below k)
  have HB8 := Lib.hid (fun w' (k : Below w8.heap.size w8 w') => hB.below k)
  clear hA hB b7 b8
  go_wp2_with (refine wpList_loadG rfl rfl rfl (by kernel_rfl) (n := 65) (by kernel_rfl) hg8 hsz ?_)
  refine (HRs.out low w8 b68).mono ?_; rintro e w9 ⟨v9, rfl, hC, b9⟩
  have HS9 := Lib.hid (same20 (HA8.out w9 b9) hC)
  have b69 := below_tr' b68 b9
  clear hC hg8
  go_wp2_with fail
  rw [HSm.out] at HS9
  refine (HS9.out).mono ?_; rintro e w10 ⟨rfl, b10⟩
  have b610 := below_tr' b69 b10
  have b810 := below_tr' b9 b10
  have HL10 := Lib.hid (HLq.out low up w10 b610)
  clear b69 b68 b9 b10 HS9 HLq
  cases hlu : leqB LN LR low up with
  | false =>
    rw [hlu] at HL10
    clear HFd
    go_wp2_with fail
    refine (HL10.out).mono ?_; rintro e w11 ⟨rfl, rfl⟩
    have hg10 := (b610.block _ HGl.out).trans HG.out
    go_wp2_with (refine wpList_loadG rfl rfl rfl (by kernel_rfl) (n := 65) (by kernel_rfl) hg10 hsz ?_)
    refine (HRs.out low w10 b610).mono ?_; rintro e w12 ⟨v12, rfl, hC, b12⟩
    have HS12 := Lib.hid (same20 (HA8.out w12 (below_tr' b810 b12)) hC)
    rw [HSm.out] at HS12
    clear hC hg10
    go_wp2_with fail
    refine (HS12.out).mono ?_; rintro e w13 ⟨rfl, b13⟩
    go_wp2_with fail
    go_ret
    exact ⟨rfl, below_tr' (below_tr' (below_tr' b06 b610) b12) b13⟩
  | true =>
    rw [hlu] at HL10
    have hF := Lib.hid (HFd.out hlu)
    have b010 := below_tr' b06 b610
    clear HFd HRs HSm hlu HG HGl b610 b06 hsz
    go_wp2_with fail
    refine (HL10.out).mono ?_; rintro e w11 ⟨rfl, rfl⟩
    clear HL10
    go_wp2_with fail
    go_loopw [17, 77] (fun kv iv wr => ∃ i k : Nat, iv = .int .i64 (i : Int) ∧ kv = .int .i64 (k : Int) ∧ i ≤ B.length ∧ k ≤ A.length ∧ Hid (foundIn sameV noVT A (B.drop i) k = A.length) ∧ Below w10.heap.size w10 wr) (fun _ iv _ => B.length - (intOf iv).toNat)
    case atStart => exact ⟨0, 0, rfl, rfl, Nat.zero_le _, Nat.zero_le _, Lib.hid (by rw [List.drop_zero]; exact hF.out), Below.refl _ _⟩
    case round =>
      clear hF
      obtain ⟨i, k, rfl, rfl, hi, hk, hF, hb⟩ := hrel
      by_cases hil : i < B.length
      · have t2 : decide ((i : Int) < (B.length : Int)) = true := by simp; omega
        have i0 : (0 : Int) ≤ (i : Int) := by omega
        obtain ⟨vb, hxb⟩ : ∃ x, B[i]? = some x := ⟨_, List.getElem?_eq_getElem hil⟩
        obtain ⟨gB, offB, rfl, _, _, dsB, hdB, hrB⟩ := (HB8.out wr (below_tr' b810 hb)).item hxb
        replace hdB := ValIn.at hdB
        obtain ⟨r1, r2, r3, r4, rfl⟩ := hdB.sixS
        have hF2 := Lib.hid ((foundIn_drop (same := sameV) (d := noVT) (a := A) (k := k) hil).symm.trans hF.out)
        have eb : B.getD i noVT = vb := by simp [List.getD, hxb]
        rw [eb] at hF2
        clear hF eb hxb
        go_upto_region 12 with (first | (refine wpList_loadR rfl rfl rfl (by kernel_rfl) (n := 6) (by kernel_rfl) hrB rfl ?_) | (refine wpList_rown rfl rfl rfl rfl rfl (n := 6) (by kernel_rfl) (heap_alloc_new _ _) rfl rfl (List.all_eq_true.1 (by kernel_rfl)) ?_; intro wx hgx FFx))
        have hAx : Below wr.heap.size wr wx := (((Fr.refl [wr.heap.size] wr).alloc _).trans FFx).below (Nat.le_refl _) (by simp)
        have hbx := below_tr' hb hAx
        replace hdB := hdB.kept hAx
        clear hrB FFx hAx hb
        generalize wr.heap.size = H at *
        by_cases hkl : k < A.length
        · have t3 : decide ((k : Int) < (A.length : Int)) = true := by simp; omega
          have k0 : (0 : Int) ≤ (k : Int) := by omega
          have k1 : (k : Int) < (A.length : Int) := by omega
          obtain ⟨va, hxa⟩ : ∃ x, A[k]? = some x := ⟨_, List.getElem?_eq_getElem hkl⟩
          obtain ⟨g, off, rfl, _, hgl, dsA, hdA, hrA⟩ := (HA8.out wx (below_tr' b810 hbx)).item hxa
          replace hdA := ValIn.at hdA
          obtain ⟨q1, q2, q3, q4, rfl⟩ := hdA.sixS
          have ea : A.getD k noVT = va := by simp [List.getD, hxa]
          rw [ea] at hF2
          have HQ := Lib.hid (rSame_any d d va vb _ _ wx.drew (hdA.kept ((Below.refl _ _).drew)) (hdB.kept ((Below.refl _ _).drew)))
          have a0 : wx.drew.cell? ⟨g, off + k * 6, none⟩ = some (.int .i64 va.kind) := hrA 0 _ rfl
          have a1 : wx.drew.cell? ⟨g, off + k * 6 + 1, none⟩ = some (.int .i64 va.num) := hrA 1 _ rfl
          have a2 : wx.drew.cell? ⟨g, off + k * 6 + 2, none⟩ = some (.float .f64 va.flt) := hrA 2 _ rfl
          have a3 : wx.drew.cell? ⟨g, off + k * 6 + 3, none⟩ = some (.string ⟨va.str.toArray⟩) := hrA 3 _ rfl
          have a4 : wx.drew.cell? ⟨g, off + k * 6 + 4, none⟩ = some (.slice q1 va.names.length q2) := hrA 4 _ rfl
          have a5 : wx.drew.cell? ⟨g, off + k * 6 + 5, none⟩ = some (.slice q3 va.items.length q4) := hrA 5 _ rfl
          have c0 : wx.drew.cell? ⟨H, 0, none⟩ = some (.int .i64 vb.kind) := (Lib.cell_of_heap hgx _).trans rfl
          have c1 : wx.drew.cell? ⟨H, 1, none⟩ = some (.int .i64 vb.num) := (Lib.cell_of_heap hgx _).trans rfl
          have c2 : wx.drew.cell? ⟨H, 2, none⟩ = some (.float .f64 vb.flt) := (Lib.cell_of_heap hgx _).trans rfl
          have c3 : wx.drew.cell? ⟨H, 3, none⟩ = some (.string ⟨vb.str.toArray⟩) := (Lib.cell_of_heap hgx _).trans rfl
          have c4 : wx.drew.cell? ⟨H, 4, none⟩ = some (.slice r1 vb.names.length r2) := (Lib.cell_of_heap hgx _).trans rfl
          have c5 : wx.drew.cell? ⟨H, 5, none⟩ = some (.slice r3 vb.items.length r4) := (Lib.cell_of_heap hgx _).trans rfl
          have hgl2 : g < wx.drew.heap.size := hgl
          have hHl2 : H < wx.drew.heap.size := lt_of_block hgx
          clear hdA hdB hrA hxa ea hgx hgl
          go_region_held3 (fun z => z.cell? ⟨g, off + k * 6, none⟩ = some (.int .i64 va.kind) ∧ z.cell? ⟨g, off + k * 6 + 1, none⟩ = some (.int .i64 va.num) ∧ z.cell? ⟨g, off + k * 6 + 2, none⟩ = some (.float .f64 va.flt) ∧ z.cell? ⟨g, off + k * 6 + 3, none⟩ = some (.string ⟨va.str.toArray⟩) ∧ z.cell? ⟨g, off + k * 6 + 4, none⟩ = some (.slice q1 va.names.length q2) ∧ z.cell? ⟨g, off + k * 6 + 5, none⟩ = some (.slice q3 va.items.length q4) ∧ z.cell? ⟨H, 0, none⟩ = some (.int .i64 vb.kind) ∧ z.cell? ⟨H, 1, none⟩ = some (.int .i64 vb.num) ∧ z.cell? ⟨H, 2, none⟩ = some (.float .f64 vb.flt) ∧ z.cell? ⟨H, 3, none⟩ = some (.string ⟨vb.str.toArray⟩) ∧ z.cell? ⟨H, 4, none⟩ = some (.slice r1 vb.names.length r2) ∧ z.cell? ⟨H, 5, none⟩ = some (.slice r3 vb.items.length r4)) (first | with_reducible exact ⟨a0, a1, a2, a3, a4, a5, c0, c1, c2, c3, c4, c5⟩ | exact ⟨(hb5.cell (p := ⟨g, off + k * 6, none⟩) hgl2).trans a0, (hb5.cell (p := ⟨g, off + k * 6 + 1, none⟩) hgl2).trans a1, (hb5.cell (p := ⟨g, off + k * 6 + 2, none⟩) hgl2).trans a2, (hb5.cell (p := ⟨g, off + k * 6 + 3, none⟩) hgl2).trans a3, (hb5.cell (p := ⟨g, off + k * 6 + 4, none⟩) hgl2).trans a4, (hb5.cell (p := ⟨g, off + k * 6 + 5, none⟩) hgl2).trans a5, (hb5.cell (p := ⟨H, 0, none⟩) hHl2).trans c0, (hb5.cell (p := ⟨H, 1, none⟩) hHl2).trans c1, (hb5.cell (p := ⟨H, 2, none⟩) hHl2).trans c2, (hb5.cell (p := ⟨H, 3, none⟩) hHl2).trans c3, (hb5.cell (p := ⟨H, 4, none⟩) hHl2).trans c4, (hb5.cell (p := ⟨H, 5, none⟩) hHl2).trans c5⟩) ((go_at_call 12; (with_reducible refine (HQ.out).mono ?_); rintro e w5 ⟨rfl, hb5⟩))
          have hbr := below_tr' hbx (undrew hb5)
          cases hs : sameV va vb with
          | true =>
            have hF3 : Hid (foundIn sameV noVT A (B.drop (i + 1)) (k + 1) = A.length) := by show _ = _; rw [← hF2.out, if_pos ⟨hkl, hs⟩]
            clear hF2 HQ hbx hb5 a0 a1 a2 a3 a4 a5 c0 c1 c2 c3 c4 c5
            go_wp2_with fail
            go_roundw
            case rel => exact ⟨i + 1, k + 1, by go_num, by go_num, by omega, by omega, hF3, hbr⟩
            case measure => simp [intOf]; omega
          | false =>
            have hF3 : Hid (foundIn sameV noVT A (B.drop (i + 1)) k = A.length) := by show _ = _; rw [← hF2.out, if_neg (by rw [hs]; simp)]
            clear hF2 HQ hbx hb5 a0 a1 a2 a3 a4 a5 c0 c1 c2 c3 c4 c5
            go_wp2_with fail
            go_roundw
            case rel => exact ⟨i + 1, k, by go_num, rfl, by omega, hk, hF3, hbr⟩
            case measure => simp [intOf]; omega
        · have t3 : decide ((k : Int) < (A.length : Int)) = false := by simp; omega
          have hF3 : Hid (foundIn sameV noVT A (B.drop (i + 1)) k = A.length) := by show _ = _; rw [← hF2.out, if_neg (fun h => hkl h.1)]
          clear hF2 hdB hgx
          go_quiet (fail)
          go_wp2_with fail
          go_roundw
          case rel => exact ⟨i + 1, k, by go_num, rfl, by omega, hk, hF3, below_tr' hbx (drewN_below _ _)⟩
          case measure => simp [intOf]; omega
      · have t2 : decide ((i : Int) < (B.length : Int)) = false := by simp; omega
        obtain rfl : i = B.length := by omega
        have hkA : k = A.length := by
          have := hF.out
          rwa [List.drop_length, foundIn] at this
        subst hkA
        have hbr := below_tr' b010 hb
        clear hF hb
        go_wp2_with fail
        go_ret
        exact ⟨ret_val (by simp), hbr⟩
end Go.Proofs.YtkbcdlabfbonoaaGreatDoor
