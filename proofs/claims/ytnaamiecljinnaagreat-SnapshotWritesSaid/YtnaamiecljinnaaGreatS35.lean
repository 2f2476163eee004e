/-
  Z7 in one text.
-/
import Derived.Below
import Derived.BigQuiet
import Derived.Deep.AppendLies
import Derived.Deep.Cut
import Derived.Deep.CutBlock
import Derived.Deep.DeepCutAuto
import Derived.Deep.QuietTactic
import Derived.Deep.RegionHeld3
import Derived.Deep.RegionLaw
import Derived.Deep.RegionWith
import Derived.Defers
import Derived.Handy
import Derived.IntWalk
import Derived.Laws.Bits64b
import Derived.Laws.FloatBits
import Derived.Lib.AtoiAll
import Derived.Lib.Builder
import Derived.Lib.Bytes
import Derived.Lib.ConvBytes
import Derived.Lib.FrozenHead2
import Derived.Lib.Hide
import Derived.Lib.IndexMore
import Derived.Lib.ItoaNum
import Derived.Lib.MinMax
import Derived.Lib.OthersKept
import Derived.Lib.ParseIntB
import Derived.Lib.UnsafeStr
import Derived.LoopTactic
import Derived.OneCell
import Derived.OwnWalk
import Derived.Recover
import Derived.RegionTactic
import Derived.Shelf.Abstract
import Derived.StillTailTactics
import Derived.Tactics
import Derived.Tactics2
import Derived.Test.YtnaamiecljinnaaGreatChecked
import Derived.WalkKit
import Derived.WalkLawsBesides
import Derived.WalkSpells
import Ieee.Arith
import Derived.Test.YtnaamiecljinnaaGreatS00
import Derived.Test.YtnaamiecljinnaaGreatS01
import Derived.Test.YtnaamiecljinnaaGreatS03
import Derived.Test.YtnaamiecljinnaaGreatS04
import Derived.Test.YtnaamiecljinnaaGreatS08
import Derived.Test.YtnaamiecljinnaaGreatS14
import Derived.Test.YtnaamiecljinnaaGreatS15
import Derived.Test.YtnaamiecljinnaaGreatS18
import Derived.Test.YtnaamiecljinnaaGreatS30
namespace Go.Proofs.YtnaamiecljinnaaGreat
open Go.RowKit
theorem zeroB_can (f : Nat) : zeroB (canon f) = zeroB f := by unfold zeroB; rw [canon_canon]
theorem canL_isE (l : List VT) : (canL l).isEmpty = l.isEmpty := by cases l <;> rfl
mutual
theorem rightV_can : ∀ (v : VT) (far : Nat), rightV (canV v) far = rightV v far
  | .mk k n f s ns its, far => by
    rw [canV, rightV, rightV, zeroB_can, canL_isE, canL_length, rightL_can its (far - 1)]
theorem rightL_can : ∀ (l : List VT) (far : Nat), rightL (canL l) far = rightL l far
  | [], _ => by rw [canL]
  | x :: xs, far => by rw [canL, rightL, rightL, rightV_can x far, rightL_can xs far]
end
mutual
theorem countV_can : ∀ (v : VT) (n : Nat), countV (canV v) n = countV v n
  | .mk k m f s ns its, n => by rw [canV, countV, countV, countL_can its]
theorem countL_can : ∀ (l : List VT) (n : Nat), countL (canL l) n = countL l n
  | [], _ => by rw [canL]
  | x :: xs, n => by rw [canL, countL, countL, countV_can x, countL_can xs]
end
theorem rightB_can (v : VT) : rightB (canV v) = rightB v := by unfold rightB; rw [countV_can, rightV_can]
theorem rdVal_enc' {v : VT} (r : List UInt8) (h : rightB v = true) (hin : inV v) : rdVal (encV v ++ r) = some (canV v, r) := rdVal_enc r h hin (by rw [rightB_can]; exact h)
theorem numR_enc {n : Nat} (h : n ≤ 2199023255552) (t : List UInt8) : numR (uintS n ++ t) = some (n, t) := by
  unfold numR
  rw [rdU_enc t (by omega)]
  exact if_pos h
/-- counts that can be written are such numbers -/
theorem numsE_open {n : Int} {l : List Int} {q : List UInt8} (h : numsE (n :: l) = some q) : ∃ k : Nat, n = (k : Int) ∧ k ≤ 2199023255552 ∧ ∃ q2, numsE l = some q2 ∧ q = uintS k ++ q2 := by
  rw [numsE] at h
  split at h
  · rename_i hn
    have hn : 0 ≤ n ∧ n ≤ 2199023255552 := by simpa [inN] using hn
    split at h
    · cases h
    · rename_i q2 hq
      cases h
      exact ⟨n.toNat, by omega, by omega, q2, hq, rfl⟩
  · cases h
theorem numsE_end {q : List UInt8} (h : numsE [] = some q) : q = [] := by cases h; rfl
theorem catO_open {a b : Option (List UInt8)} {q : List UInt8} (h : catO a b = some q) : ∃ x y, a = some x ∧ b = some y ∧ q = x ++ y := by
  cases a with
  | none => cases h
  | some x => cases b with
    | none => cases h
    | some y => cases h; exact ⟨x, y, rfl, rfl, rfl⟩
theorem preB_open {a : List UInt8} {b : Option (List UInt8)} {q : List UInt8} (h : preB a b = some q) : ∃ y, b = some y ∧ q = a ++ y := by
  cases b with
  | none => cases h
  | some y => cases h; exact ⟨y, rfl, rfl⟩
theorem valsE_open {v : VT} {l : List VT} {q : List UInt8} (h : valsE (v :: l) = some q) : rightB v = true ∧ ∃ q2, valsE l = some q2 ∧ q = encV v ++ q2 := by
  rw [valsE] at h
  split at h
  · rename_i hr
    exact ⟨hr, preB_open h⟩
  · cases h
theorem bare_none {v : VT} (hk : v.kind = 0) (h : bareV v false false false false = true) : canV v = noVT := by
  obtain ⟨k, n, f, s, ns, its⟩ := v
  simp only [bareV, VT.num, VT.flt, VT.str, VT.names, VT.items, Bool.false_or, Bool.and_eq_true, List.isEmpty_iff] at h
  obtain ⟨h1, h2, h3, h4, h5⟩ := h
  have hk : k = 0 := hk
  have e1 : n = 0 := of_decide_eq_true h1
  subst hk; subst e1; subst h3; subst h4; subst h5
  have hz : canon f = 0 := by simpa [zeroB] using h2
  rw [canV, hz, canL]; rfl
theorem someR_enc {v : VT} {q : List UInt8} (t : List UInt8) (hin : inV v) (h : someE v = some q) : someR (q ++ t) = some (canV v, t) := by
  unfold someE at h
  split at h
  · rename_i hk
    split at h
    · rename_i hb
      cases h
      rw [bare_none hk hb]; rfl
    · cases h
  · obtain ⟨y, h1, rfl⟩ := preB_open h
    obtain ⟨hr, q2, h2, rfl⟩ := valsE_open h1
    cases h2
    rw [List.append_nil]
    show someR (1 :: (encV v ++ t)) = _
    unfold someR
    dsimp only
    rw [if_neg (by decide), if_pos (by decide)]
    exact rdVal_enc' t hr hin
structure ItOk (k m : Nat) (x : It) : Prop where
  hk : x.1.length = k
  hm : x.2.length = m
  hv : ∀ v ∈ x.2, inV v
theorem heldR_enc {x : It} {q : List UInt8} (t : List UInt8) (hx : ItOk 5 1 x) (h : itE true x = some q) : heldR (q ++ t) = some (canI x, t) := by
  obtain ⟨x1, x2⟩ := x
  obtain ⟨h1, h2, h3⟩ := hx
  obtain ⟨a0, a1, a2, a3, a4, rfl⟩ := len5 h1
  obtain ⟨v, rfl⟩ := len1 h2
  obtain ⟨y, z, hy, hz, rfl⟩ := catO_open h
  obtain ⟨n0, rfl, b0, _, hy0, rfl⟩ := numsE_open hy
  obtain ⟨n1, rfl, b1, _, hy1, rfl⟩ := numsE_open hy0
  obtain ⟨n2, rfl, b2, _, hy2, rfl⟩ := numsE_open hy1
  obtain ⟨n3, rfl, b3, _, hy3, rfl⟩ := numsE_open hy2
  obtain ⟨n4, rfl, b4, _, hy4, rfl⟩ := numsE_open hy3
  cases numsE_end hy4
  have hs := someR_enc t (h3 v (by simp)) (q := z) hz
  simp only [List.append_assoc, List.nil_append]
  unfold heldR instR
  simp only [numR_enc b0, numR_enc b1, numR_enc b2, numR_enc b3, numR_enc b4, Option.bind_some, hs]
  rfl
theorem spotR_enc {x : It} {q : List UInt8} (t : List UInt8) (hx : ItOk 4 0 x) (h : itE false x = some q) : spotR (q ++ t) = some (canI x, t) := by
  obtain ⟨x1, x2⟩ := x
  obtain ⟨h1, h2, h3⟩ := hx
  obtain ⟨a0, a1, a2, a3, rfl⟩ := len4 h1
  cases List.length_eq_zero_iff.1 h2
  obtain ⟨y, z, hy, hz, rfl⟩ := catO_open h
  obtain ⟨n0, rfl, b0, _, hy0, rfl⟩ := numsE_open hy
  obtain ⟨n1, rfl, b1, _, hy1, rfl⟩ := numsE_open hy0
  obtain ⟨n2, rfl, b2, _, hy2, rfl⟩ := numsE_open hy1
  obtain ⟨n3, rfl, b3, _, hy3, rfl⟩ := numsE_open hy2
  cases numsE_end hy3
  cases hz
  simp only [List.append_assoc, List.nil_append]
  unfold spotR instR
  simp only [numR_enc b0, numR_enc b1, numR_enc b2, numR_enc b3, Option.bind_some]
  rfl
theorem putR_enc {x : It} {q : List UInt8} (t : List UInt8) (hx : ItOk 3 1 x) (h : itE false x = some q) : putR (q ++ t) = some (canI x, t) := by
  obtain ⟨x1, x2⟩ := x
  obtain ⟨h1, h2, h3⟩ := hx
  obtain ⟨a0, a1, a2, rfl⟩ := len3 h1
  obtain ⟨v, rfl⟩ := len1 h2
  obtain ⟨y, z, hy, hz, rfl⟩ := catO_open h
  obtain ⟨n0, rfl, b0, _, hy0, rfl⟩ := numsE_open hy
  obtain ⟨n1, rfl, b1, _, hy1, rfl⟩ := numsE_open hy0
  obtain ⟨n2, rfl, b2, _, hy2, rfl⟩ := numsE_open hy1
  cases numsE_end hy2
  obtain ⟨hr, _, hz1, rfl⟩ := valsE_open (l := []) hz
  cases hz1
  simp only [List.append_assoc, List.nil_append]
  unfold putR instR
  simp only [numR_enc b0, numR_enc b1, numR_enc b2, Option.bind_some, rdVal_enc' t hr (h3 v (by simp))]
  rfl
theorem letterR_enc {x : It} {q : List UInt8} (t : List UInt8) (hx : ItOk 1 2 x) (h : itE false x = some q) : letterR (q ++ t) = some (canI x, t) := by
  obtain ⟨x1, x2⟩ := x
  obtain ⟨h1, h2, h3⟩ := hx
  obtain ⟨a0, rfl⟩ := len1 h1
  obtain ⟨v, u, rfl⟩ := len2 h2
  obtain ⟨y, z, hy, hz, rfl⟩ := catO_open h
  obtain ⟨n0, rfl, b0, _, hy0, rfl⟩ := numsE_open hy
  cases numsE_end hy0
  obtain ⟨hr, _, hz1, rfl⟩ := valsE_open (l := [u]) hz
  obtain ⟨hr2, _, hz2, rfl⟩ := valsE_open (l := []) hz1
  cases hz2
  simp only [List.append_assoc, List.nil_append]
  unfold letterR
  simp only [numR_enc b0, Option.bind_some, rdVal_enc' _ hr (h3 v (by simp)), rdVal_enc' t hr2 (h3 u (by simp))]
  rfl
theorem auditR_enc {x : It} {q : List UInt8} (t : List UInt8) (hx : ItOk 5 1 x) (h : itE false x = some q) : auditR (q ++ t) = some (canI x, t) := by
  obtain ⟨x1, x2⟩ := x
  obtain ⟨h1, h2, h3⟩ := hx
  obtain ⟨a0, a1, a2, a3, a4, rfl⟩ := len5 h1
  obtain ⟨v, rfl⟩ := len1 h2
  obtain ⟨y, z, hy, hz, rfl⟩ := catO_open h
  obtain ⟨n0, rfl, b0, _, hy0, rfl⟩ := numsE_open hy
  obtain ⟨n1, rfl, b1, _, hy1, rfl⟩ := numsE_open hy0
  obtain ⟨n2, rfl, b2, _, hy2, rfl⟩ := numsE_open hy1
  obtain ⟨n3, rfl, b3, _, hy3, rfl⟩ := numsE_open hy2
  obtain ⟨n4, rfl, b4, _, hy4, rfl⟩ := numsE_open hy3
  cases numsE_end hy4
  obtain ⟨hr, _, hz1, rfl⟩ := valsE_open (l := []) hz
  cases hz1
  simp only [List.append_assoc, List.nil_append]
  unfold auditR instR
  simp only [numR_enc b0, numR_enc b1, numR_enc b2, numR_enc b3, numR_enc b4, Option.bind_some, rdVal_enc' t hr (h3 v (by simp))]
  rfl
theorem itsR_enc {rd : List UInt8 → Option (It × List UInt8)} {so : Bool} {k m : Nat} (hrd : ∀ x q t, ItOk k m x → itE so x = some q → rd (q ++ t) = some (canI x, t)) :
    ∀ (xs : List It) (q t : List UInt8), (∀ x ∈ xs, ItOk k m x) → itsE so xs = some q → itsR rd xs.length (q ++ t) = some (xs.map canI, t)
  | [], q, t, _, h => by cases h; rfl
  | x :: xs, q, t, hx, h => by
    rw [itsE] at h
    obtain ⟨y, z, hy, hz, rfl⟩ := catO_open h
    show itsR rd (xs.length + 1) _ = _
    rw [itsR, List.append_assoc, hrd x y (z ++ t) (hx x (by simp)) hy]
    simp only [Option.bind_some]
    rw [itsR_enc hrd xs z t (fun y hy => hx y (by simp [hy])) hz]
    rfl
theorem listR_enc {rd : List UInt8 → Option (It × List UInt8)} {so : Bool} {k m : Nat} (hrd : ∀ x q t, ItOk k m x → itE so x = some q → rd (q ++ t) = some (canI x, t)) {xs : List It} {q : List UInt8} (t : List UInt8) (hx : ∀ x ∈ xs, ItOk k m x) (h : listE so xs = some q) : listR rd (q ++ t) = some (xs.map canI, t) := by
  obtain ⟨y, z, hy, hz, rfl⟩ := catO_open h
  unfold manyE at hy
  split at hy
  · rename_i h5
    obtain ⟨n, h1, h2, _, h3, rfl⟩ := numsE_open hy
    cases numsE_end h3
    have hn : n = xs.length := by omega
    subst hn
    unfold listR
    have hm : manyR (uintS xs.length ++ [] ++ z ++ t) = some (xs.length, z ++ t) := by
      unfold manyR
      rw [List.append_nil, List.append_assoc, numR_enc h2]
      exact if_pos (by show xs.length ≤ 500; omega)
    rw [hm]
    simp only [Option.bind_some]
    exact itsR_enc hrd xs z t hx hz
  · cases hy
structure PartOk (p : PartT) : Prop where
  h0 : ∀ x ∈ p.waits, ItOk 5 1 x
  h1 : ∀ x ∈ p.spots, ItOk 4 0 x
  h2 : ∀ x ∈ p.puts, ItOk 3 1 x
  h3 : ∀ x ∈ p.letters, ItOk 1 2 x
  h4 : ∀ x ∈ p.audits, ItOk 5 1 x
/-- written and read again -/
theorem partR_enc {p : PartT} {q : List UInt8} (hp : PartOk p) (h : partE p = some q) : partR q = some (canP p) := by
  obtain ⟨y, g0, rfl⟩ := preB_open h
  obtain ⟨a, y1, ha, g1, rfl⟩ := catO_open g0
  obtain ⟨w, y2, hw, g2, rfl⟩ := catO_open g1
  obtain ⟨s, y3, hs, g3, rfl⟩ := catO_open g2
  obtain ⟨u, y4, hu, g4, rfl⟩ := catO_open g3
  obtain ⟨t, y5, ht, g5, rfl⟩ := catO_open g4
  obtain ⟨d, y6, hd, g6, rfl⟩ := catO_open g5
  cases g6
  obtain ⟨n0, e0, b0, _, ha0, rfl⟩ := numsE_open ha
  obtain ⟨n1, e1, b1, _, ha1, rfl⟩ := numsE_open ha0
  cases numsE_end ha1
  unfold partR
  rw [if_pos (by rfl), show List.drop 4 (magicB ++ (uintS n0 ++ (uintS n1 ++ []) ++ (w ++ (s ++ (u ++ (t ++ (d ++ []))))))) = uintS n0 ++ (uintS n1 ++ (w ++ (s ++ (u ++ (t ++ (d ++ [])))))) from by simp [magicB]]
  simp only [numR_enc b0, numR_enc b1, Option.bind_some]
  rw [listR_enc (fun x q t hx h => heldR_enc t hx h) _ hp.h0 hw]
  simp only [Option.bind_some]
  rw [listR_enc (fun x q t hx h => spotR_enc t hx h) _ hp.h1 hs]
  simp only [Option.bind_some]
  rw [listR_enc (fun x q t hx h => putR_enc t hx h) _ hp.h2 hu]
  simp only [Option.bind_some]
  rw [listR_enc (fun x q t hx h => letterR_enc t hx h) _ hp.h3 ht]
  simp only [Option.bind_some]
  rw [listR_enc (fun x q t hx h => auditR_enc t hx h) _ hp.h4 hd]
  simp only [Option.bind_some, if_true]
  rw [canP, e0, e1]
end Go.Proofs.YtnaamiecljinnaaGreat
