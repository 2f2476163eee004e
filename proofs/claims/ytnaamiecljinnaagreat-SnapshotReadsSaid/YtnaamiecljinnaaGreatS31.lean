/-
  Gj, Z6 in one text.
-/
import Derived.Below
import Derived.BigQuiet
import Derived.BigRegion
import Derived.Deep.AppendLies
import Derived.Deep.Cut
import Derived.Deep.CutBlock
import Derived.Deep.DeepCutAuto
import Derived.Deep.QuietTactic
import Derived.Deep.RegionHeld3
import Derived.Deep.RegionLaw
import Derived.Deep.RegionWith
import Derived.Defers
import Derived.Handy
import Derived.IntWalk
import Derived.Laws.Bits64b
import Derived.Laws.FloatBits
import Derived.Lib.AtoiAll
import Derived.Lib.Builder
import Derived.Lib.Bytes
import Derived.Lib.ConvBytes
import Derived.Lib.FrozenHead2
import Derived.Lib.Hide
import Derived.Lib.IndexMore
import Derived.Lib.ItoaNum
import Derived.Lib.MinMax
import Derived.Lib.OthersKept
import Derived.Lib.ParseIntB
import Derived.Lib.UnsafeStr
import Derived.LoopTactic
import Derived.OneCell
import Derived.OwnWalk
import Derived.Recover
import Derived.RegionTactic
import Derived.Shelf.Abstract
import Derived.StillTailTactics
import Derived.Tactics
import Derived.Tactics2
import Derived.Test.YtnaamiecljinnaaGreatChecked
import Derived.WalkKit
import Derived.WalkLawsBesides
import Derived.WalkSpells
import Ieee.Arith
import Derived.Test.YtnaamiecljinnaaGreatS00
import Derived.Test.YtnaamiecljinnaaGreatS02
import Derived.Test.YtnaamiecljinnaaGreatS03
import Derived.Test.YtnaamiecljinnaaGreatS08
import Derived.Test.YtnaamiecljinnaaGreatS09
import Derived.Test.YtnaamiecljinnaaGreatS14
import Derived.Test.YtnaamiecljinnaaGreatS15
import Derived.Test.YtnaamiecljinnaaGreatS18
import Derived.Test.YtnaamiecljinnaaGreatS19
import Derived.Test.YtnaamiecljinnaaGreatS25
import Derived.Test.YtnaamiecljinnaaGreatS30
namespace Go.Proofs.YtnaamiecljinnaaGreat
section
open Go.RowKit
/-- what In.num, In.many leave -/
def InN (B b p : Nat) (s : ByteArray) (w : World) (r : Option (Nat × List UInt8)) (e : Ending) (w' : World) : Prop :=
  ∃ (a : Nat) (st : Option (List UInt8)), e = .returned (.int .i64 (a : Int)) ∧ a ≤ B ∧ RdAt b s st p w' ∧ Fr [b] w w' ∧ IsO r a st
theorem inumN (b p : Nat) (s : ByteArray) (hs : s.size ≤ 1000000) (st : Option (List UInt8)) (w : World) (h : RdAt b s st p w) :
    Calls Tryz.prog 28 #[.agg #[.pointer (some ⟨b, 0, none⟩)]] w (InN 2199023255552 b p s w (st.bind numR)) :=
  (inum_any b p s hs st w h).mono fun e w' h => by
    obtain ⟨rfl, h1, h2⟩ := h
    exact ⟨_, _, rfl, numR_lt st, h1, h2, isO_out 0 _⟩
theorem manyR_lt (st : Option (List UInt8)) : (outR 0 (st.bind manyR)).1 ≤ 500 := by
  rw [manyR_of]
  split
  · show 0 ≤ 500; omega
  · omega
theorem imanyN (b p : Nat) (s : ByteArray) (hs : s.size ≤ 1000000) (st : Option (List UInt8)) (w : World) (h : RdAt b s st p w) :
    Calls Tryz.prog 29 #[.agg #[.pointer (some ⟨b, 0, none⟩)]] w (InN 500 b p s w (st.bind manyR)) :=
  (imany_any b p s hs st w h).mono fun e w' h => by
    obtain ⟨rfl, h1, h2⟩ := h
    exact ⟨_, _, rfl, manyR_lt st, h1, h2, isO_out 0 _⟩
/-- so many items read, n still to come; or an error -/
def InvR (R : Option PartT) (rd : List UInt8 → Option (It × List UInt8)) (n : Nat) (K : List It → List UInt8 → Option PartT) (its : List It) : Option (List UInt8) → Prop
  | some l => R = (itsR rd n l).bind fun y => K (its ++ y.1) y.2
  | none => R = none
theorem InvR.start {R : Option PartT} {rd : List UInt8 → Option (It × List UInt8)} {N : Nat} {K : List It → List UInt8 → Option PartT} {st st1 : Option (List UInt8)}
    (h : R = st.bind fun l => (listR rd l).bind fun y => K y.1 y.2) (hn : IsO (st.bind manyR) N st1) : InvR R rd (N - 0) K [] st1 := by
  cases st with
  | none =>
    have hn : st1 = none := hn
    subst hn
    exact h
  | some l =>
    have hn : IsO (manyR l) N st1 := hn
    have h : R = (listR rd l).bind fun y => K y.1 y.2 := h
    unfold listR at h
    cases hm : manyR l with
    | none =>
      rw [hm] at hn h
      have hn : st1 = none := hn
      subst hn
      exact h
    | some r =>
      rw [hm] at hn h
      obtain ⟨rfl, rfl⟩ := hn
      exact h
theorem InvR.step {R : Option PartT} {rd : List UInt8 → Option (It × List UInt8)} {n : Nat} {K : List It → List UInt8 → Option PartT} {its : List It} {l : List UInt8} {x : It} {st2 : Option (List UInt8)}
    (h : InvR R rd (n + 1) K its (some l)) (hx : IsO (rd l) x st2) : InvR R rd n K (its ++ [x]) st2 := by
  have h : R = (itsR rd (n + 1) l).bind fun y => K (its ++ y.1) y.2 := h
  rw [its_stepR] at h
  cases hr : rd l with
  | none =>
    rw [hr] at hx h
    have hx : st2 = none := hx
    subst hx
    exact h
  | some y =>
    rw [hr] at hx h
    obtain ⟨rfl, rfl⟩ := hx
    exact h
theorem InvR.done {R : Option PartT} {rd : List UInt8 → Option (It × List UInt8)} {n : Nat} {K : List It → List UInt8 → Option PartT} {its : List It} {st : Option (List UInt8)}
    (h : InvR R rd n K its st) (hn : n = 0 ∨ st = none) : R = st.bind (K its) := by
  cases st with
  | none => exact h
  | some l =>
    rcases hn with rfl | hn
    · have h : R = (itsR rd 0 l).bind fun y => K (its ++ y.1) y.2 := h
      rw [itsR] at h
      simpa using h
    · cases hn
theorem heldR_isO {a1 : Nat} {a2 : Nat} {a3 : Nat} {a4 : Nat × Nat} {a5 : VT} {l : List UInt8} {s1 s2 s3 s4 s5 : Option (List UInt8)} (h1 : IsO ((some l).bind numR) a1 s1) (h2 : IsO (s1.bind numR) a2 s2) (h3 : IsO (s2.bind numR) a3 s3) (h4 : IsO (s3.bind instR) a4 s4) (h5 : IsO (s4.bind someR) a5 s5) : IsO (heldR l) (([(a1 : Int), (a2 : Int), (a3 : Int), (a4.1 : Int), (a4.2 : Int)], [a5]) : It) s5 := by
  unfold heldR
  have h1 : IsO (numR l) a1 s1 := h1
  cases e1 : numR l with
  | none =>
    rw [e1] at h1
    have h1 : s1 = none := h1
    subst h1
    have h2 : s2 = none := h2
    subst h2
    have h3 : s3 = none := h3
    subst h3
    have h4 : s4 = none := h4
    subst h4
    have h5 : s5 = none := h5
    subst h5
    rfl
  | some y1 =>
  rw [e1] at h1
  obtain ⟨rfl, rfl⟩ := h1
  simp only [Option.bind_some]
  have h2 : IsO (numR y1.2) a2 s2 := h2
  cases e2 : numR y1.2 with
  | none =>
    rw [e2] at h2
    have h2 : s2 = none := h2
    subst h2
    have h3 : s3 = none := h3
    subst h3
    have h4 : s4 = none := h4
    subst h4
    have h5 : s5 = none := h5
    subst h5
    rfl
  | some y2 =>
  rw [e2] at h2
  obtain ⟨rfl, rfl⟩ := h2
  simp only [Option.bind_some]
  have h3 : IsO (numR y2.2) a3 s3 := h3
  cases e3 : numR y2.2 with
  | none =>
    rw [e3] at h3
    have h3 : s3 = none := h3
    subst h3
    have h4 : s4 = none := h4
    subst h4
    have h5 : s5 = none := h5
    subst h5
    rfl
  | some y3 =>
  rw [e3] at h3
  obtain ⟨rfl, rfl⟩ := h3
  simp only [Option.bind_some]
  have h4 : IsO (instR y3.2) a4 s4 := h4
  cases e4 : instR y3.2 with
  | none =>
    rw [e4] at h4
    have h4 : s4 = none := h4
    subst h4
    have h5 : s5 = none := h5
    subst h5
    rfl
  | some y4 =>
  rw [e4] at h4
  obtain ⟨rfl, rfl⟩ := h4
  simp only [Option.bind_some]
  have h5 : IsO (someR y4.2) a5 s5 := h5
  cases e5 : someR y4.2 with
  | none =>
    rw [e5] at h5
    have h5 : s5 = none := h5
    subst h5
    rfl
  | some y5 =>
  rw [e5] at h5
  obtain ⟨rfl, rfl⟩ := h5
  simp only [Option.bind_some]
  exact ⟨rfl, rfl⟩
theorem spotR_isO {a1 : Nat × Nat} {a2 : Nat} {a3 : Nat} {l : List UInt8} {s1 s2 s3 : Option (List UInt8)} (h1 : IsO ((some l).bind instR) a1 s1) (h2 : IsO (s1.bind numR) a2 s2) (h3 : IsO (s2.bind numR) a3 s3) : IsO (spotR l) (([(a1.1 : Int), (a1.2 : Int), (a2 : Int), (a3 : Int)], []) : It) s3 := by
  unfold spotR
  have h1 : IsO (instR l) a1 s1 := h1
  cases e1 : instR l with
  | none =>
    rw [e1] at h1
    have h1 : s1 = none := h1
    subst h1
    have h2 : s2 = none := h2
    subst h2
    have h3 : s3 = none := h3
    subst h3
    rfl
  | some y1 =>
  rw [e1] at h1
  obtain ⟨rfl, rfl⟩ := h1
  simp only [Option.bind_some]
  have h2 : IsO (numR y1.2) a2 s2 := h2
  cases e2 : numR y1.2 with
  | none =>
    rw [e2] at h2
    have h2 : s2 = none := h2
    subst h2
    have h3 : s3 = none := h3
    subst h3
    rfl
  | some y2 =>
  rw [e2] at h2
  obtain ⟨rfl, rfl⟩ := h2
  simp only [Option.bind_some]
  have h3 : IsO (numR y2.2) a3 s3 := h3
  cases e3 : numR y2.2 with
  | none =>
    rw [e3] at h3
    have h3 : s3 = none := h3
    subst h3
    rfl
  | some y3 =>
  rw [e3] at h3
  obtain ⟨rfl, rfl⟩ := h3
  simp only [Option.bind_some]
  exact ⟨rfl, rfl⟩
theorem putR_isO {a1 : Nat × Nat} {a2 : Nat} {a3 : VT} {l : List UInt8} {s1 s2 s3 : Option (List UInt8)} (h1 : IsO ((some l).bind instR) a1 s1) (h2 : IsO (s1.bind numR) a2 s2) (h3 : IsO (s2.bind rdVal) a3 s3) : IsO (putR l) (([(a1.1 : Int), (a1.2 : Int), (a2 : Int)], [a3]) : It) s3 := by
  unfold putR
  have h1 : IsO (instR l) a1 s1 := h1
  cases e1 : instR l with
  | none =>
    rw [e1] at h1
    have h1 : s1 = none := h1
    subst h1
    have h2 : s2 = none := h2
    subst h2
    have h3 : s3 = none := h3
    subst h3
    rfl
  | some y1 =>
  rw [e1] at h1
  obtain ⟨rfl, rfl⟩ := h1
  simp only [Option.bind_some]
  have h2 : IsO (numR y1.2) a2 s2 := h2
  cases e2 : numR y1.2 with
  | none =>
    rw [e2] at h2
    have h2 : s2 = none := h2
    subst h2
    have h3 : s3 = none := h3
    subst h3
    rfl
  | some y2 =>
  rw [e2] at h2
  obtain ⟨rfl, rfl⟩ := h2
  simp only [Option.bind_some]
  have h3 : IsO (rdVal y2.2) a3 s3 := h3
  cases e3 : rdVal y2.2 with
  | none =>
    rw [e3] at h3
    have h3 : s3 = none := h3
    subst h3
    rfl
  | some y3 =>
  rw [e3] at h3
  obtain ⟨rfl, rfl⟩ := h3
  simp only [Option.bind_some]
  exact ⟨rfl, rfl⟩
theorem letterR_isO {a1 : Nat} {a2 : VT} {a3 : VT} {l : List UInt8} {s1 s2 s3 : Option (List UInt8)} (h1 : IsO ((some l).bind numR) a1 s1) (h2 : IsO (s1.bind rdVal) a2 s2) (h3 : IsO (s2.bind rdVal) a3 s3) : IsO (letterR l) (([(a1 : Int)], [a2, a3]) : It) s3 := by
  unfold letterR
  have h1 : IsO (numR l) a1 s1 := h1
  cases e1 : numR l with
  | none =>
    rw [e1] at h1
    have h1 : s1 = none := h1
    subst h1
    have h2 : s2 = none := h2
    subst h2
    have h3 : s3 = none := h3
    subst h3
    rfl
  | some y1 =>
  rw [e1] at h1
  obtain ⟨rfl, rfl⟩ := h1
  simp only [Option.bind_some]
  have h2 : IsO (rdVal y1.2) a2 s2 := h2
  cases e2 : rdVal y1.2 with
  | none =>
    rw [e2] at h2
    have h2 : s2 = none := h2
    subst h2
    have h3 : s3 = none := h3
    subst h3
    rfl
  | some y2 =>
  rw [e2] at h2
  obtain ⟨rfl, rfl⟩ := h2
  simp only [Option.bind_some]
  have h3 : IsO (rdVal y2.2) a3 s3 := h3
  cases e3 : rdVal y2.2 with
  | none =>
    rw [e3] at h3
    have h3 : s3 = none := h3
    subst h3
    rfl
  | some y3 =>
  rw [e3] at h3
  obtain ⟨rfl, rfl⟩ := h3
  simp only [Option.bind_some]
  exact ⟨rfl, rfl⟩
theorem auditR_isO {a1 : Nat × Nat} {a2 : Nat} {a3 : Nat} {a4 : Nat} {a5 : VT} {l : List UInt8} {s1 s2 s3 s4 s5 : Option (List UInt8)} (h1 : IsO ((some l).bind instR) a1 s1) (h2 : IsO (s1.bind numR) a2 s2) (h3 : IsO (s2.bind numR) a3 s3) (h4 : IsO (s3.bind numR) a4 s4) (h5 : IsO (s4.bind rdVal) a5 s5) : IsO (auditR l) (([(a1.1 : Int), (a1.2 : Int), (a2 : Int), (a3 : Int), (a4 : Int)], [a5]) : It) s5 := by
  unfold auditR
  have h1 : IsO (instR l) a1 s1 := h1
  cases e1 : instR l with
  | none =>
    rw [e1] at h1
    have h1 : s1 = none := h1
    subst h1
    have h2 : s2 = none := h2
    subst h2
    have h3 : s3 = none := h3
    subst h3
    have h4 : s4 = none := h4
    subst h4
    have h5 : s5 = none := h5
    subst h5
    rfl
  | some y1 =>
  rw [e1] at h1
  obtain ⟨rfl, rfl⟩ := h1
  simp only [Option.bind_some]
  have h2 : IsO (numR y1.2) a2 s2 := h2
  cases e2 : numR y1.2 with
  | none =>
    rw [e2] at h2
    have h2 : s2 = none := h2
    subst h2
    have h3 : s3 = none := h3
    subst h3
    have h4 : s4 = none := h4
    subst h4
    have h5 : s5 = none := h5
    subst h5
    rfl
  | some y2 =>
  rw [e2] at h2
  obtain ⟨rfl, rfl⟩ := h2
  simp only [Option.bind_some]
  have h3 : IsO (numR y2.2) a3 s3 := h3
  cases e3 : numR y2.2 with
  | none =>
    rw [e3] at h3
    have h3 : s3 = none := h3
    subst h3
    have h4 : s4 = none := h4
    subst h4
    have h5 : s5 = none := h5
    subst h5
    rfl
  | some y3 =>
  rw [e3] at h3
  obtain ⟨rfl, rfl⟩ := h3
  simp only [Option.bind_some]
  have h4 : IsO (numR y3.2) a4 s4 := h4
  cases e4 : numR y3.2 with
  | none =>
    rw [e4] at h4
    have h4 : s4 = none := h4
    subst h4
    have h5 : s5 = none := h5
    subst h5
    rfl
  | some y4 =>
  rw [e4] at h4
  obtain ⟨rfl, rfl⟩ := h4
  simp only [Option.bind_some]
  have h5 : IsO (rdVal y4.2) a5 s5 := h5
  cases e5 : rdVal y4.2 with
  | none =>
    rw [e5] at h5
    have h5 : s5 = none := h5
    subst h5
    rfl
  | some y5 =>
  rw [e5] at h5
  obtain ⟨rfl, rfl⟩ := h5
  simp only [Option.bind_some]
  exact ⟨rfl, rfl⟩
end
section
open Go.RowKit
theorem numR_dec {l t : List UInt8} {n : Nat} (h : numR l = some (n, t)) : l = uintS n ++ t ∧ n ≤ 2199023255552 := by
  unfold numR at h
  split at h
  · cases h
  · rename_i q hq
    split at h
    · cases h
      exact ⟨(rdU_dec hq).1, by assumption⟩
    · cases h
theorem inN_of {n : Nat} (h : n ≤ 2199023255552) : inN (n : Int) = true := by
  unfold inN
  rw [decide_eq_true (by omega), decide_eq_true (by omega)]; rfl
theorem numsE_cons {n : Nat} (h : n ≤ 2199023255552) (l : List Int) : numsE ((n : Int) :: l) = preB (uintS n) (numsE l) := by
  rw [numsE, inN_of h, if_pos rfl]
  cases numsE l <;> rfl
theorem instR_dec {l t : List UInt8} {n m : Nat} (h : instR l = some ((n, m), t)) : l = uintS n ++ uintS m ++ t ∧ n ≤ 2199023255552 ∧ m ≤ 2199023255552 := by
  unfold instR at h
  split at h
  · cases h
  · rename_i r hr
    split at h
    · cases h
    · rename_i q hq
      cases h
      obtain ⟨h1, h2⟩ := numR_dec (n := r.1) (t := r.2) hr
      obtain ⟨h3, h4⟩ := numR_dec (n := q.1) (t := q.2) hq
      exact ⟨by rw [h1, h3, List.append_assoc], h2, h4⟩
theorem rightB_kind {v : VT} (h : rightB v = true) : v.kind ≠ 0 := by
  obtain ⟨_, h2⟩ := (rightB_iff v).1 h
  intro hk
  rw [rightX (by omega) (by omega) (by omega) (by omega) (by omega) (by omega)] at h2
  cases h2
theorem valsE_one {v : VT} (h : rightB v = true) : valsE [v] = some (encV v) := by
  rw [valsE, if_pos h, valsE]; simp [preB]
theorem valsE_two {v u : VT} (h : rightB v = true) (k : rightB u = true) : valsE [v, u] = some (encV v ++ encV u) := by
  rw [valsE, if_pos h, valsE_one k]; rfl
theorem someR_dec {l t : List UInt8} {v : VT} (h : someR l = some (v, t)) : ∃ q, someE v = some q ∧ l = q ++ t := by
  cases l with
  | nil => cases h
  | cons c l =>
    unfold someR at h
    dsimp only at h
    split at h
    · rename_i hc
      cases h
      have : c = 0 := by
        have := UInt8.toNat_inj (a := c) (b := 0)
        exact this.1 (by simpa using hc)
      subst this
      exact ⟨[0], by decide, rfl⟩
    · split at h
      · rename_i hc
        have : c = 1 := by
          have := UInt8.toNat_inj (a := c) (b := 1)
          exact this.1 (by simpa using hc)
        subst this
        obtain ⟨h1, _, _, h2⟩ := rdVal_dec h
        refine ⟨1 :: encV v, ?_, by rw [h1]; rfl⟩
        rw [someE, if_neg (rightB_kind h2), valsE_one h2]; rfl
      · cases h
theorem heldR_dec {l t : List UInt8} {x : It} (h : heldR l = some (x, t)) : ∃ q, itE true x = some q ∧ l = q ++ t := by
  unfold heldR at h
  simp only [Option.bind_eq_some_iff] at h
  obtain ⟨⟨a, la⟩, ha, ⟨b, lb⟩, hb, ⟨c, lc⟩, hc, ⟨⟨i, j⟩, li⟩, hi, ⟨v, lv⟩, hv, h⟩ := h
  cases h
  obtain ⟨ha, ka⟩ := numR_dec ha
  obtain ⟨hb, kb⟩ := numR_dec hb
  obtain ⟨hc, kc⟩ := numR_dec hc
  obtain ⟨hi, ki, kj⟩ := instR_dec hi
  obtain ⟨q, hq, hv⟩ := someR_dec hv
  dsimp only at hb hc hi hv
  refine ⟨uintS a ++ (uintS b ++ (uintS c ++ (uintS i ++ uintS j))) ++ q, ?_, ?_⟩
  · show catO (numsE [(a : Int), (b : Int), (c : Int), (i : Int), (j : Int)]) (someE v) = _
    rw [numsE_cons ka, numsE_cons kb, numsE_cons kc, numsE_cons ki, numsE_cons kj, numsE, hq]
    simp [preB, catO]
  · rw [ha, hb, hc, hi, hv]; simp
theorem spotR_dec {l t : List UInt8} {x : It} (h : spotR l = some (x, t)) : ∃ q, itE false x = some q ∧ l = q ++ t := by
  unfold spotR at h
  simp only [Option.bind_eq_some_iff] at h
  obtain ⟨⟨⟨i, j⟩, li⟩, hi, ⟨a, la⟩, ha, ⟨b, lb⟩, hb, h⟩ := h
  cases h
  obtain ⟨ha, ka⟩ := numR_dec ha
  obtain ⟨hb, kb⟩ := numR_dec hb
  obtain ⟨hi, ki, kj⟩ := instR_dec hi
  dsimp only at ha hb
  refine ⟨uintS i ++ (uintS j ++ (uintS a ++ uintS b)), ?_, ?_⟩
  · show catO (numsE [(i : Int), (j : Int), (a : Int), (b : Int)]) (valsE []) = _
    rw [numsE_cons ki, numsE_cons kj, numsE_cons ka, numsE_cons kb, numsE]
    simp [preB, catO, valsE]
  · rw [hi, ha, hb]; simp
theorem putR_dec {l t : List UInt8} {x : It} (h : putR l = some (x, t)) : ∃ q, itE false x = some q ∧ l = q ++ t := by
  unfold putR at h
  simp only [Option.bind_eq_some_iff] at h
  obtain ⟨⟨⟨i, j⟩, li⟩, hi, ⟨a, la⟩, ha, ⟨v, lv⟩, hv, h⟩ := h
  cases h
  obtain ⟨ha, ka⟩ := numR_dec ha
  obtain ⟨hi, ki, kj⟩ := instR_dec hi
  obtain ⟨hv, _, _, kv⟩ := rdVal_dec hv
  dsimp only at ha hv
  refine ⟨uintS i ++ (uintS j ++ uintS a) ++ encV v, ?_, ?_⟩
  · show catO (numsE [(i : Int), (j : Int), (a : Int)]) (valsE [v]) = _
    rw [numsE_cons ki, numsE_cons kj, numsE_cons ka, numsE, valsE_one kv]
    simp [preB, catO]
  · rw [hi, ha, hv]; simp
theorem letterR_dec {l t : List UInt8} {x : It} (h : letterR l = some (x, t)) : ∃ q, itE false x = some q ∧ l = q ++ t := by
  unfold letterR at h
  simp only [Option.bind_eq_some_iff] at h
  obtain ⟨⟨a, la⟩, ha, ⟨v, lv⟩, hv, ⟨u, lu⟩, hu, h⟩ := h
  cases h
  obtain ⟨ha, ka⟩ := numR_dec ha
  obtain ⟨hv, _, _, kv⟩ := rdVal_dec hv
  obtain ⟨hu, _, _, ku⟩ := rdVal_dec hu
  dsimp only at hv hu
  refine ⟨uintS a ++ (encV v ++ encV u), ?_, ?_⟩
  · show catO (numsE [(a : Int)]) (valsE [v, u]) = _
    rw [numsE_cons ka, numsE, valsE_two kv ku]
    simp [preB, catO]
  · rw [ha, hv, hu]; simp
theorem auditR_dec {l t : List UInt8} {x : It} (h : auditR l = some (x, t)) : ∃ q, itE false x = some q ∧ l = q ++ t := by
  unfold auditR at h
  simp only [Option.bind_eq_some_iff] at h
  obtain ⟨⟨⟨i, j⟩, li⟩, hi, ⟨a, la⟩, ha, ⟨b, lb⟩, hb, ⟨c, lc⟩, hc, ⟨v, lv⟩, hv, h⟩ := h
  cases h
  obtain ⟨ha, ka⟩ := numR_dec ha
  obtain ⟨hb, kb⟩ := numR_dec hb
  obtain ⟨hc, kc⟩ := numR_dec hc
  obtain ⟨hi, ki, kj⟩ := instR_dec hi
  obtain ⟨hv, _, _, kv⟩ := rdVal_dec hv
  dsimp only at ha hb hc hv
  refine ⟨uintS i ++ (uintS j ++ (uintS a ++ (uintS b ++ uintS c))) ++ encV v, ?_, ?_⟩
  · show catO (numsE [(i : Int), (j : Int), (a : Int), (b : Int), (c : Int)]) (valsE [v]) = _
    rw [numsE_cons ki, numsE_cons kj, numsE_cons ka, numsE_cons kb, numsE_cons kc, numsE, valsE_one kv]
    simp [preB, catO]
  · rw [hi, ha, hb, hc, hv]; simp
theorem itsR_dec {rd : List UInt8 → Option (It × List UInt8)} {so : Bool} (hrd : ∀ l x t, rd l = some (x, t) → ∃ q, itE so x = some q ∧ l = q ++ t) :
    ∀ (n : Nat) (l : List UInt8) (xs : List It) (t : List UInt8), itsR rd n l = some (xs, t) → xs.length = n ∧ ∃ q, itsE so xs = some q ∧ l = q ++ t
  | 0, l, xs, t, h => by
    rw [itsR] at h
    cases h
    exact ⟨rfl, [], rfl, rfl⟩
  | n + 1, l, xs, t, h => by
    rw [itsR] at h
    simp only [Option.bind_eq_some_iff] at h
    obtain ⟨⟨x, lx⟩, hx, ⟨ys, ly⟩, hy, h⟩ := h
    cases h
    obtain ⟨h1, q, h2, h3⟩ := itsR_dec hrd n _ _ _ hy
    obtain ⟨p, h4, h5⟩ := hrd _ _ _ hx
    dsimp only at h2 h3
    refine ⟨by simp [h1], p ++ q, ?_, by rw [h5, h3, List.append_assoc]⟩
    rw [itsE, h4, h2]; rfl
theorem listR_dec {rd : List UInt8 → Option (It × List UInt8)} {so : Bool} (hrd : ∀ l x t, rd l = some (x, t) → ∃ q, itE so x = some q ∧ l = q ++ t) {l t : List UInt8} {xs : List It} (h : listR rd l = some (xs, t)) : ∃ q, listE so xs = some q ∧ l = q ++ t := by
  unfold listR at h
  simp only [Option.bind_eq_some_iff] at h
  obtain ⟨⟨n, ln⟩, hn, h⟩ := h
  obtain ⟨h1, q, h2, h3⟩ := itsR_dec hrd _ _ _ _ h
  dsimp only at h1 h3
  unfold manyR at hn
  split at hn
  · cases hn
  · rename_i r hr
    split at hn
    · rename_i h500
      cases hn
      obtain ⟨k1, k2⟩ := numR_dec (n := n) (t := ln) hr
      refine ⟨uintS n ++ q, ?_, by rw [k1, h3, List.append_assoc]⟩
      rw [listE, h1, manyE, if_pos (by have : n ≤ 500 := h500; omega), numsE_cons k2, numsE, h2]
      simp [preB, catO]
    · cases hn
/-- read and written again -/
theorem partR_dec {l : List UInt8} {p : PartT} (h : partR l = some p) : partE p = some l := by
  unfold partR at h
  split at h
  · rename_i hm
    simp only [Option.bind_eq_some_iff] at h
    obtain ⟨⟨a, la⟩, ha, ⟨b, lb⟩, hb, ⟨w, lw⟩, hw, ⟨s, ls⟩, hs, ⟨u, lu⟩, hu, ⟨t, lt⟩, ht, ⟨d, ld⟩, hd, h⟩ := h
    split at h
    · rename_i h0
      cases h
      obtain ⟨ha, ka⟩ := numR_dec ha
      obtain ⟨hb, kb⟩ := numR_dec hb
      obtain ⟨qw, ew, hw⟩ := listR_dec (fun _ _ _ => heldR_dec) hw
      obtain ⟨qs, es, hs⟩ := listR_dec (fun _ _ _ => spotR_dec) hs
      obtain ⟨qu, eu, hu⟩ := listR_dec (fun _ _ _ => putR_dec) hu
      obtain ⟨qt, et, ht⟩ := listR_dec (fun _ _ _ => letterR_dec) ht
      obtain ⟨qd, ed, hd⟩ := listR_dec (fun _ _ _ => auditR_dec) hd
      dsimp only at hb hw hs hu ht hd h0
      show preB magicB (catO (numsE [(a : Int), (b : Int)]) (catO (listE true w) (catO (listE false s) (catO (listE false u) (catO (listE false t) (catO (listE false d) (some []))))))) = _
      rw [numsE_cons ka, numsE_cons kb, numsE, ew, es, eu, et, ed]
      rw [h0] at hd
      have hl : l = magicB ++ l.drop 4 := by rw [← hm, List.take_append_drop]
      rw [hl, ha, hb, hw, hs, hu, ht, hd]
      simp [preB, catO]
    · cases h
  · cases h
end
end Go.Proofs.YtnaamiecljinnaaGreat
