/-
  Yl, Ym, Yn in one text.
-/
import Derived.Below
import Derived.BigQuiet
import Derived.Deep.AppendLies
import Derived.Deep.Cut
import Derived.Deep.CutBlock
import Derived.Deep.DeepCutAuto
import Derived.Deep.QuietTactic
import Derived.Deep.RegionHeld3
import Derived.Deep.RegionLaw
import Derived.Deep.RegionWith
import Derived.Defers
import Derived.Handy
import Derived.IntWalk
import Derived.Laws.Bits64b
import Derived.Laws.FloatBits
import Derived.Lib.AtoiAll
import Derived.Lib.Builder
import Derived.Lib.Bytes
import Derived.Lib.FrozenHead2
import Derived.Lib.Hide
import Derived.Lib.IndexMore
import Derived.Lib.ItoaNum
import Derived.Lib.MinMax
import Derived.Lib.OthersKept
import Derived.Lib.ParseIntB
import Derived.Lib.UnsafeStr
import Derived.LoopTactic
import Derived.OneCell
import Derived.OwnWalk
import Derived.Recover
import Derived.RegionTactic
import Derived.Shelf.Abstract
import Derived.Tactics
import Derived.Tactics2
import Derived.Test.YtnaamiecljinnaaGreatChecked
import Derived.WalkKit
import Derived.WalkLawsBesides
import Derived.WalkSpells
import Ieee.Arith
import Derived.Test.YtnaamiecljinnaaGreatS00
import Derived.Test.YtnaamiecljinnaaGreatS02
import Derived.Test.YtnaamiecljinnaaGreatS03
import Derived.Test.YtnaamiecljinnaaGreatS08
namespace Go.Proofs.YtnaamiecljinnaaGreat
section
open Go.RowKit
/-- a block behind P that is neither row -/
def Sep (P : Nat) (pn pi : Value) (g : Nat) : Prop := P < g ∧ pn.ownBlock ≠ some g ∧ pi.ownBlock ≠ some g
structure Rows (P f : Nat) (ns : List (List UInt8)) (its : List VT) (pn pi : Value) (w : World) : Prop where
  hn : w.ownsRow (P + 1) 9 1 pn ns.length (ns.map fun s => .string ⟨s.toArray⟩)
  hi : ∃ xs, w.ownsRow (P + 1) 57 6 pi its.length xs ∧ ∀ i, i < its.length → ∃ ds, ds.size = 6 ∧ ValIn (Sep P pn pi) w f (its.getD i noVT) ds ∧ ∀ j, j < 6 → xs[i * 6 + j]? = ds[j]?
  ne : ∀ g, pn.ownBlock = some g → pi.ownBlock ≠ some g
theorem own_lt {w : World} {base : Nat} {e : TypeId} {size : Nat} {v : Value} {n : Nat} {xs : List Value} (h : w.ownsRow base e size v n xs) {g : Nat} (hg : v.ownBlock = some g) : base ≤ g ∧ g < w.heap.size :=
  (World.ownsRowF_of h).lt g hg
theorem Rows.nil (P f : Nat) (w : World) : Rows P f [] [] (.slice none 0 0) (.slice none 0 0) w :=
  ⟨World.ownsRow_nil _ _ _ _, ⟨[], World.ownsRow_nil _ _ _ _, fun i hi => by simp at hi⟩, fun g hg => by simp [Value.ownBlock] at hg⟩
theorem ValIn.grown {S T : Nat → Prop} {w w' : World} {row : Option Nat} (hg : w.grownBy w' row) (hk : ∀ g, S g → g < w.heap.size → T g ∧ some g ≠ row) {d : Nat} {v : VT} {cs : Array Value} (h : ValIn S w d v cs) : ValIn T w' d v cs :=
  h.kept hg.size fun g h1 h2 => ⟨(hk g h1 h2).1, hg.block g h2 (hk g h1 h2).2⟩
theorem Fr.grown {b : Nat} {w w' : World} (h : Fr [b] w w') : w.grownBy w' (some b) := ⟨h.os, h.tape, h.output, h.size, fun k hk hn => h.block k hk (by simp; intro e; exact hn (by rw [e]))⟩
/-- what changes no block behind P -/
theorem Rows.far {P f : Nat} {ns : List (List UInt8)} {its : List VT} {pn pi : Value} {w w' : World} {b : Nat} (h : Rows P f ns its pn pi w) (hg : w.grownBy w' (some b)) (hb : b ≤ P) : Rows P f ns its pn pi w' := by
  obtain ⟨hn, ⟨xs, h1, h2⟩, ne⟩ := h
  have keep : ∀ {e : TypeId} {size : Nat} {v : Value} {n : Nat} {xs : List Value}, w.ownsRow (P + 1) e size v n xs → w'.ownsRow (P + 1) e size v n xs := fun h => h.kept hg (by
    rcases hv : Value.ownBlock _ with _ | k
    · exact .inl rfl
    · right
      have := own_lt h hv
      intro e; injection e; omega)
  refine ⟨keep hn, ⟨xs, keep h1, fun i hi => ?_⟩, ne⟩
  obtain ⟨ds, d1, d2, d3⟩ := h2 i hi
  exact ⟨ds, d1, d2.grown hg fun g hS _ => ⟨hS, fun e => by injection e; have := hS.1; omega⟩, d3⟩
theorem Rows.name {P f : Nat} {ns : List (List UInt8)} {its : List VT} {pn pi : Value} {w w' : World} {s : List UInt8} {g cap H : Nat} (h : Rows P f ns its pn pi w)
    (hown : w'.ownsRow (P + 1) 9 1 (.slice (some ⟨g, 0, none⟩) (ns.length + 1) cap) (ns.length + 1) ((ns.map fun s => .string ⟨s.toArray⟩) ++ [.string ⟨s.toArray⟩]))
    (hgr : w.grownBy w' pn.ownBlock) (hat : pn.ownBlock = some g ∨ g = H) (hH : w.heap.size ≤ H) : Rows P f (ns ++ [s]) its (.slice (some ⟨g, 0, none⟩) (ns.length + 1) cap) pi w' := by
  obtain ⟨hn, ⟨xs, h1, h2⟩, ne⟩ := h
  have hpi : ∀ k, pi.ownBlock = some k → k < w.heap.size ∧ pn.ownBlock ≠ some k := fun k hk => ⟨(own_lt h1 hk).2, fun e => ne k e hk⟩
  refine ⟨by simpa using hown, ⟨xs, h1.kept hgr ?_, fun i hi => ?_⟩, fun k hk e => ?_⟩
  · rcases hv : pi.ownBlock with _ | k
    · exact .inl rfl
    · exact .inr fun e => (hpi k hv).2 e.symm
  · obtain ⟨ds, d1, d2, d3⟩ := h2 i hi
    refine ⟨ds, d1, d2.grown hgr fun k hS hk => ⟨⟨hS.1, fun e => ?_, hS.2.2⟩, fun e => hS.2.1 e.symm⟩, d3⟩
    simp [Value.ownBlock] at e
    subst e
    rcases hat with hat | hat
    · exact hS.2.1 hat
    · omega
  · simp [Value.ownBlock] at hk
    subst hk
    obtain ⟨k1, k2⟩ := hpi _ e
    rcases hat with hat | hat
    · exact k2 hat
    · omega
theorem Rows.item {P f : Nat} {ns : List (List UInt8)} {its : List VT} {pn pi : Value} {w w' : World} {v : VT} {ds : Array Value} {g cap H : Nat} {xs : List Value} (h : Rows P f ns its pn pi w)
    (hx : w.ownsRow (P + 1) 57 6 pi its.length xs) (hd : ds.size = 6) (hv : ValIn (Sep P pn pi) w f v ds)
    (hown : w'.ownsRow (P + 1) 57 6 (.slice (some ⟨g, 0, none⟩) (its.length + 1) cap) (its.length + 1) (xs ++ ds.toList))
    (hgr : w.grownBy w' pi.ownBlock) (hat : pi.ownBlock = some g ∨ g = H) (hH : w.heap.size ≤ H) : Rows P f ns (its ++ [v]) pn (.slice (some ⟨g, 0, none⟩) (its.length + 1) cap) w' := by
  obtain ⟨hn, ⟨ys, h1, h2⟩, ne⟩ := h
  have hyx : ys = xs := by
    rcases h1.2 with ⟨e1, e2⟩ | ⟨g1, cap1, cur1, e1, _, e3, _, _, _, e7⟩
    · rcases hx.2 with ⟨_, _⟩ | ⟨g2, cap2, cur2, k1, _⟩
      · have a := h1.1; have b := hx.1
        rw [e2] at a b
        simp at a b
        rw [a, b]
      · rw [e1] at k1; cases k1
    · rcases hx.2 with ⟨k1, _⟩ | ⟨g2, cap2, cur2, k1, _, k3, _, _, _, k7⟩
      · rw [e1] at k1; cases k1
      · rw [e1] at k1
        injection k1 with k1
        injection k1 with k1
        injection k1 with k1
        subst k1
        rw [e3] at k3
        injection k3 with k3
        injection k3 with k3
        subst k3
        rw [← e7, ← k7]
  subst hyx
  have hpn : ∀ k, pn.ownBlock = some k → k < w.heap.size ∧ pi.ownBlock ≠ some k := fun k hk => ⟨(own_lt hn hk).2, ne k hk⟩
  have keep : ∀ {x : VT} {cs : Array Value}, ValIn (Sep P pn pi) w f x cs → ValIn (Sep P pn (.slice (some ⟨g, 0, none⟩) (its.length + 1) cap)) w' f x cs := fun h => h.grown hgr fun k hS hk => ⟨⟨hS.1, hS.2.1, fun e => by
    simp [Value.ownBlock] at e
    subst e
    rcases hat with hat | hat
    · exact hS.2.2 hat
    · omega⟩, fun e => hS.2.2 e.symm⟩
  have hl : ys.length = its.length * 6 := h1.1
  refine ⟨hn.kept hgr ?_, ⟨ys ++ ds.toList, by simpa using hown, fun i hi => ?_⟩, fun k hk e => ?_⟩
  · rcases hv' : pn.ownBlock with _ | k
    · exact .inl rfl
    · exact .inr fun e => (hpn k hv').2 e.symm
  · rw [List.length_append] at hi
    by_cases hlt : i < its.length
    · obtain ⟨cs, d1, d2, d3⟩ := h2 i hlt
      refine ⟨cs, d1, ?_, fun j hj => ?_⟩
      · rw [show (its ++ [v]).getD i noVT = its.getD i noVT by simp [List.getD, List.getElem?_append_left hlt]]
        exact keep d2
      · rw [List.getElem?_append_left (by omega)]; exact d3 j hj
    · have hi' : i = its.length := by simp at hi; omega
      subst hi'
      refine ⟨ds, hd, ?_, fun j hj => ?_⟩
      · rw [show (its ++ [v]).getD its.length noVT = v by simp [List.getD]]
        exact keep hv
      · rw [List.getElem?_append_right (by omega), show its.length * 6 + j - ys.length = j by omega]; simp
  · simp [Value.ownBlock] at e
    subst e
    obtain ⟨k1, k2⟩ := hpn _ hk
    rcases hat with hat | hat
    · exact k2 hat
    · omega
end
section
open Go.RowKit
theorem row_cell {w : World} {base : Nat} {e : TypeId} {size g n cap : Nat} {xs : List Value} (h : w.ownsRow base e size (.slice (some ⟨g, 0, none⟩) n cap) n xs) {j : Nat} {u : Value} (hu : xs[j]? = some u) : w.cell? ⟨g, 0 + j, none⟩ = some u := by
  have := World.ownsRow.cells (g := g) h rfl j u hu
  have hadd : (⟨g, 0, none⟩ : Addr).add j = ⟨g, j, none⟩ := by unfold Addr.add; split <;> simp_all
  rw [hadd] at this
  rw [Nat.zero_add]; exact this
theorem Rows.node {P f : Nat} {ns : List (List UInt8)} {its : List VT} {pn pi : Value} {w : World} (h : Rows P f ns its pn pi w) {K : Int} (hK : -9223372036854775808 ≤ K ∧ K ≤ 9223372036854775807)
    (h1 : ns.length ≤ 1000) (h2 : ∀ s ∈ ns, s.length ≤ 1000) (h3 : its.length ≤ 1000) : ValIn (fun g => P < g) w (f + 1) (.mk K 0 0 [] ns its) #[.int .i64 K, .int .i64 0, .float .f64 0, .string ⟨#[]⟩, pn, pi] := by
  obtain ⟨hn, ⟨xs, hx, hc⟩, _⟩ := h
  refine ⟨pn, pi, rfl, hK, by simp only [VT.num]; omega, by simp only [VT.flt]; unfold F64; omega, by simp [VT.str], ⟨Nat.le_trans h1 (by decide), fun s hs => Nat.le_trans (h2 s hs) (by decide), ?_⟩, Nat.le_trans h3 (by decide), ?_⟩
  · rcases hn.2 with ⟨e1, e2⟩ | ⟨g, cap, cur, e1, e2, e3, _⟩
    · exact .inl ⟨List.length_eq_zero_iff.1 e2, _, _, e1⟩
    · subst e1
      refine .inr ⟨g, 0, cap, rfl, ⟨by omega, (Array.getElem?_eq_some_iff.1 e3).1⟩, fun i hi => row_cell hn ?_⟩
      have hi : i < ns.length := hi
      simp [VT.names, List.getD, hi]
  · rcases hx.2 with ⟨e1, e2⟩ | ⟨g, cap, cur, e1, e2, e3, _⟩
    · exact .inl ⟨List.length_eq_zero_iff.1 e2, _, _, e1⟩
    · subst e1
      refine .inr ⟨g, 0, cap, rfl, ⟨by omega, (Array.getElem?_eq_some_iff.1 e3).1⟩, fun i hi => ?_⟩
      obtain ⟨ds, d1, d2, d3⟩ := hc i hi
      refine ⟨ds, d2.kept (Nat.le_refl _) fun k hS _ => ⟨by have := hS.1; omega, rfl⟩, fun j hj => ?_⟩
      have hd := d3 j hj
      rw [show ds[j]? = some (ds[j]'(by omega)) from Array.getElem?_eq_getElem (by omega)] at hd ⊢
      rw [show 0 + i * 6 + j = 0 + (i * 6 + j) by omega]
      exact row_cell hx hd
/-- names and items read ahead of what follows -/
def preI (a : List (List UInt8)) (b : List VT) : Option (List (List UInt8) × List VT × Nat × List UInt8) → Option (List (List UInt8) × List VT × Nat × List UInt8)
  | none => none
  | some c => some (a ++ c.1, b ++ c.2.1, c.2.2)
theorem preI_nil (r : Option (List (List UInt8) × List VT × Nat × List UInt8)) : preI [] [] r = r := by cases r <;> rfl
theorem items_step5 {rv : Nat → List UInt8 → Option (VT × Nat × List UInt8)} {n p : Nat} {l : List UInt8} (its : List VT) :
    preI [] its (rdItems rv false (n + 1) p l) = (match rv p l with | none => none | some b => preI [] (its ++ [b.1]) (rdItems rv false n b.2.1 b.2.2)) := by
  rw [rdItems]
  simp only [Bool.false_eq_true, if_false]
  cases rv p l with
  | none => rfl
  | some b =>
    dsimp only
    cases rdItems rv false n b.2.1 b.2.2 with
    | none => rfl
    | some c => simp [preI]
theorem items_step6 {rv : Nat → List UInt8 → Option (VT × Nat × List UInt8)} {n p : Nat} {l : List UInt8} (ns : List (List UInt8)) (its : List VT) :
    preI ns its (rdItems rv true (n + 1) p l) = (match rdStr 30 l with | none => none | some a => match rv p a.2 with | none => none | some b => preI (ns ++ [a.1]) (its ++ [b.1]) (rdItems rv true n b.2.1 b.2.2)) := by
  rw [rdItems]
  simp only [if_true]
  cases rdStr 30 l with
  | none => rfl
  | some a =>
    dsimp only
    cases rv p a.2 with
    | none => rfl
    | some b =>
      dsimp only
      cases rdItems rv true n b.2.1 b.2.2 with
      | none => rfl
      | some c => simp [preI]
end
section
open Go.RowKit
/-- the reader of values, within so many -/
def ReadsV (s : ByteArray) (b f : Nat) : Prop := ∀ (k q : Nat) (w : World), k ≤ s.size → q ≤ 200 → RdB b s k q w →
    Calls Tryz.prog 117 #[.pointer (some ⟨b, 0, none⟩), .int .i64 ((13 - f : Nat) : Int)] w (RvPost b s f w (rdV f q (s.data.toList.drop k)))
theorem rdItems_p (rv : Nat → List UInt8 → Option (VT × Nat × List UInt8)) (hrv : ∀ p l v q t, rv p l = some (v, q, t) → q ≤ 200) (named : Bool) :
    ∀ (n p : Nat) (l : List UInt8) (ns : List (List UInt8)) (its : List VT) (q : Nat) (t : List UInt8), p ≤ 200 → rdItems rv named n p l = some (ns, its, q, t) → q ≤ 200
  | 0, p, l, ns, its, q, t, hp, h => by
    rw [rdItems] at h
    simp only [Option.some.injEq, Prod.mk.injEq] at h
    omega
  | n + 1, p, l, ns, its, q, t, hp, h => by
    rw [rdItems] at h
    split at h
    · cases h
    split at h
    · cases h
    rename_i b hb
    split at h
    · cases h
    rename_i c hc
    obtain ⟨b1, b2, b3⟩ := b; obtain ⟨c1, c2, c3, c4⟩ := c
    simp only [Option.some.injEq, Prod.mk.injEq] at h
    have := rdItems_p rv hrv named n _ _ _ _ _ _ (hrv _ _ _ _ _ hb) hc
    omega
theorem rdV_p : ∀ (f p : Nat) (l : List UInt8) (v : VT) (q : Nat) (t : List UInt8), rdV f p l = some (v, q, t) → q ≤ 200
  | 0, p, l, v, q, t, h => by rw [rdV] at h; cases h
  | f + 1, p, l, v, q, t, h => by
    by_cases hp : 200 ≤ p
    · rw [rdV.eq_def] at h; dsimp only at h; rw [if_pos hp] at h; cases h
    cases l with
    | nil => rw [rdV.eq_def] at h; dsimp only at h; rw [if_neg hp] at h; cases h
    | cons k l =>
      rw [rdV_step k l (by omega)] at h
      have one : ∀ {α : Type} {r : Option α} {g : α → VT × Nat × List UInt8}, (match r with | none => none | some x => some (g x)) = some (v, q, t) → (∀ x, (g x).2.1 = p + 1) → q ≤ 200 := by
        intro α r g h hg
        cases r with
        | none => cases h
        | some x => simp only [Option.some.injEq] at h; have := hg x; rw [h] at this; simp at this; omega
      split at h
      · split at h
        · cases h
        · simp only [Option.some.injEq, Prod.mk.injEq] at h; omega
      split at h
      · split at h
        · cases h
        · simp only [Option.some.injEq, Prod.mk.injEq] at h; omega
      split at h
      · split at h
        · cases h
        · simp only [Option.some.injEq, Prod.mk.injEq] at h; omega
      split at h
      · split at h
        · cases h
        · simp only [Option.some.injEq, Prod.mk.injEq] at h; omega
      split at h
      · split at h
        · cases h
        split at h
        · cases h
        split at h
        · cases h
        rename_i c hc
        obtain ⟨c1, c2, c3, c4⟩ := c
        simp only [Option.some.injEq, Prod.mk.injEq] at h
        have := rdItems_p (rdV f) (fun p l v q t h => rdV_p f p l v q t h) _ _ _ _ _ _ _ _ (by omega) hc
        omega
      · cases h
theorem zero_VT : (Tryz.prog.info? 57).map (fun i => (i.zero, i.size, i.bytes)) = some (some (.agg #[.int .i64 0, .int .i64 0, .float .f64 0, .string ⟨#[]⟩, .slice none 0 0, .slice none 0 0]), 6, 88) := by kernel_rfl
end
end Go.Proofs.YtnaamiecljinnaaGreat
