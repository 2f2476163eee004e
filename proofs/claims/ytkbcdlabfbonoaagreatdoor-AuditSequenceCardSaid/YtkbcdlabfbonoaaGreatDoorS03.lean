/-
  Gn in one text.
-/
import Derived.Below
import Derived.Deep.AppendLies
import Derived.Deep.MidRow
import Derived.Deep.QuietTactic
import Derived.IntWalk
import Derived.Laws.Bits64b
import Derived.Laws.FloatBits
import Derived.Lib.AtoiAll
import Derived.Lib.Builder
import Derived.Lib.FrozenHead2
import Derived.Lib.Hide
import Derived.Lib.IndexMore
import Derived.Lib.ItoaNum
import Derived.Lib.ParseIntB
import Derived.OneCell
import Derived.OwnWalk
import Derived.Tactics
import Derived.Tactics2
import Derived.Test.YtkbcdlabfbonoaaGreatDoorChecked
import Derived.WalkKit
import Ieee.Arith
import Derived.Test.YtkbcdlabfbonoaaGreatDoorS00
import Derived.Test.YtkbcdlabfbonoaaGreatDoorS02
namespace Go.Proofs.YtkbcdlabfbonoaaGreatDoor
open Go.RowKit
theorem own_ltG {w : World} {base : Nat} {e : TypeId} {size : Nat} {v : Value} {n : Nat} {xs : List Value} (h : w.ownsRow base e size v n xs) {g : Nat} (hg : v.ownBlock = some g) : base ≤ g ∧ g < w.heap.size :=
  (World.ownsRowF_of h).lt g hg
/-- a kind of item: its cells, its own blocks all of a kind S -/
structure ItemK (α : Type) (sz : Nat) where
  at_ : (Nat → Prop) → World → α → Array Value → Prop
  size : ∀ {S : Nat → Prop} {w : World} {x : α} {ds : Array Value}, at_ S w x ds → ds.size = sz
  kept : ∀ {S T : Nat → Prop} {w w' : World} {x : α} {ds : Array Value}, w.heap.size ≤ w'.heap.size → (∀ g, S g → g < w.heap.size → T g ∧ w'.heap[g]? = w.heap[g]?) → at_ S w x ds → at_ T w' x ds
/-- a list behind a slice -/
def SlG {α : Type} {sz : Nat} (I : ItemK α sz) (S : Nat → Prop) (w : World) (v : Value) (l : List α) : Prop :=
  ∃ p cap, v = .slice p l.length cap ∧ l.length ≤ 140737488355328 ∧ ∀ i x, l[i]? = some x → ∃ g off, p = some ⟨g, off, none⟩ ∧ S g ∧ g < w.heap.size ∧ ∃ ds : Array Value, I.at_ S w x ds ∧ ∀ j, j < sz → w.cell? ⟨g, off + i * sz + j, none⟩ = ds[j]?
theorem SlG.nil {α : Type} {sz : Nat} (I : ItemK α sz) (S : Nat → Prop) (w : World) (p : Option Addr) (c : Nat) : SlG I S w (.slice p 0 c) [] := ⟨p, c, rfl, by simp, fun i x h => by simp at h⟩
theorem SlG.kept {α : Type} {sz : Nat} {I : ItemK α sz} {S T : Nat → Prop} {w w' : World} {v : Value} {l : List α} (hs : w.heap.size ≤ w'.heap.size) (hk : ∀ g, S g → g < w.heap.size → T g ∧ w'.heap[g]? = w.heap[g]?) (h : SlG I S w v l) : SlG I T w' v l := by
  obtain ⟨p, c, h1, h2, h3⟩ := h
  refine ⟨p, c, h1, h2, fun i x hx => ?_⟩
  obtain ⟨g, off, h4, h5, h6, ds, h7, h8⟩ := h3 i x hx
  obtain ⟨k1, k2⟩ := hk g h5 h6
  exact ⟨g, off, h4, k1, Nat.lt_of_lt_of_le h6 hs, ds, I.kept hs hk h7, fun j hj => (cell_same k2).trans (h8 j hj)⟩
theorem SlG.below {α : Type} {sz : Nat} {I : ItemK α sz} {S : Nat → Prop} {w w' : World} {v : Value} {l : List α} (hb : Below w.heap.size w w') (h : SlG I S w v l) : SlG I S w' v l :=
  h.kept hb.size fun g h1 h2 => ⟨h1, hb.block g h2⟩
/-- the cells of the i-th item -/
theorem SlG.item {α : Type} {sz : Nat} {I : ItemK α sz} {S : Nat → Prop} {w : World} {p : Option Addr} {n c : Nat} {l : List α} (h : SlG I S w (.slice p n c) l) {i : Nat} {x : α} (hx : l[i]? = some x) :
    ∃ g off, p = some ⟨g, off, none⟩ ∧ S g ∧ g < w.heap.size ∧ ∃ ds : Array Value, I.at_ S w x ds ∧ w.rangeAt g (off + i * sz) ds.toList := by
  obtain ⟨p', c', h1, h2, h3⟩ := h
  injection h1 with h1 _ _
  subst h1
  obtain ⟨g, off, h4, h5, h6, ds, h7, h8⟩ := h3 i x hx
  refine ⟨g, off, h4, h5, h6, ds, h7, fun j v hv => ?_⟩
  have hj : j < sz := by
    have := (List.getElem?_eq_some_iff.1 hv).1
    rw [Array.length_toList, I.size h7] at this
    exact this
  rw [h8 j hj]; simpa using hv
/-- a block of the kind K that isn't the row's own -/
def OffG (K : Nat → Prop) (pi : Value) (g : Nat) : Prop := K g ∧ pi.ownBlock ≠ some g
/-- a list while it is made -/
def RowG {α : Type} {sz : Nat} (I : ItemK α sz) (K : Nat → Prop) (P : Nat) (ty : TypeId) (its : List α) (pi : Value) (w : World) : Prop :=
  ∃ xs, w.ownsRow (P + 1) ty sz pi its.length xs ∧ ∀ i x, its[i]? = some x → ∃ ds : Array Value, I.at_ (OffG K pi) w x ds ∧ ∀ j, j < sz → xs[i * sz + j]? = ds[j]?
theorem RowG.nil {α : Type} {sz : Nat} (I : ItemK α sz) (K : Nat → Prop) (P : Nat) (ty : TypeId) (w : World) : RowG I K P ty [] (.slice none 0 0) w := ⟨[], World.ownsRow_nil _ _ _ _, fun i x hi => by simp at hi⟩
theorem RowG.below {α : Type} {sz : Nat} {I : ItemK α sz} {K : Nat → Prop} {P : Nat} {ty : TypeId} {its : List α} {pi : Value} {w w' : World} (h : RowG I K P ty its pi w) (hb : Below w.heap.size w w') : RowG I K P ty its pi w' := by
  obtain ⟨xs, h1, h2⟩ := h
  have hg : w.grownBy w' none := ⟨hb.os, hb.tape, hb.output, hb.size, fun k hk _ => hb.block k hk⟩
  refine ⟨xs, h1.kept hg ?_, fun i x hi => ?_⟩
  · rcases hv : Value.ownBlock pi with _ | k
    · exact .inl rfl
    · right; intro e; cases e
  · obtain ⟨ds, d2, d3⟩ := h2 i x hi
    exact ⟨ds, I.kept hb.size (fun g hS hl => ⟨hS, hb.block g hl⟩) d2, d3⟩
theorem own_same {w : World} {B : Nat} {ty : TypeId} {sz n : Nat} {v : Value} {xs ys : List Value} (h : w.ownsRow B ty sz v n xs) (k : w.ownsRow B ty sz v n ys) : xs = ys := by
  rcases h.2 with ⟨e1, e2⟩ | ⟨g1, cap1, cur1, e1, _, e3, _, _, _, e7⟩
  · rcases k.2 with ⟨_, _⟩ | ⟨g2, cap2, cur2, k1, _⟩
    · have a := h.1; have b := k.1
      rw [e2] at a b
      simp at a b
      rw [a, b]
    · rw [e1] at k1; cases k1
  · rcases k.2 with ⟨k1, _⟩ | ⟨g2, cap2, cur2, k1, _, k3, _, _, _, k7⟩
    · rw [e1] at k1; cases k1
    · rw [e1] at k1
      injection k1 with k1
      injection k1 with k1
      injection k1 with k1
      subst k1
      rw [e3] at k3
      injection k3 with k3
      injection k3 with k3
      subst k3
      rw [← e7, ← k7]
theorem RowG.item {α : Type} {sz : Nat} {I : ItemK α sz} {K : Nat → Prop} {P : Nat} {ty : TypeId} {its : List α} {pi : Value} {w w' : World} {x : α} {ds : Array Value} {g cap H : Nat} {xs : List Value} (h : RowG I K P ty its pi w)
    (hx : w.ownsRow (P + 1) ty sz pi its.length xs) (hv : I.at_ (OffG K pi) w x ds)
    (hown : w'.ownsRow (P + 1) ty sz (.slice (some ⟨g, 0, none⟩) (its.length + 1) cap) (its.length + 1) (xs ++ ds.toList))
    (hgr : w.grownBy w' pi.ownBlock) (hat : pi.ownBlock = some g ∨ g = H) (hH : w.heap.size ≤ H) : RowG I K P ty (its ++ [x]) (.slice (some ⟨g, 0, none⟩) (its.length + 1) cap) w' := by
  obtain ⟨ys, h1, h2⟩ := h
  have hyx := own_same h1 hx
  subst hyx
  have hd := I.size hv
  have keep : ∀ {y : α} {cs : Array Value}, I.at_ (OffG K pi) w y cs → I.at_ (OffG K (.slice (some ⟨g, 0, none⟩) (its.length + 1) cap)) w' y cs := fun h => I.kept hgr.size (fun q hS hl => ⟨⟨hS.1, fun e => by
    simp [Value.ownBlock] at e
    subst e
    rcases hat with hat | hat
    · exact hS.2 hat
    · omega⟩, hgr.block q hl (fun e => hS.2 e.symm)⟩) h
  have hl : ys.length = its.length * sz := h1.1
  refine ⟨ys ++ ds.toList, by simpa using hown, fun i y hi => ?_⟩
  by_cases hlt : i < its.length
  · rw [List.getElem?_append_left hlt] at hi
    obtain ⟨cs, d2, d3⟩ := h2 i y hi
    refine ⟨cs, keep d2, fun j hj => ?_⟩
    have hb : i * sz + j < its.length * sz := Nat.lt_of_lt_of_le (by rw [Nat.succ_mul]; omega) (Nat.mul_le_mul_right sz hlt)
    rw [List.getElem?_append_left (by omega)]; exact d3 j hj
  · have hi' : i = its.length := by
      have := (List.getElem?_eq_some_iff.1 hi).1
      simp at this; omega
    subst hi'
    simp at hi
    subst hi
    refine ⟨ds, keep hv, fun j hj => ?_⟩
    rw [List.getElem?_append_right (by omega), show its.length * sz + j - ys.length = j by omega]; simp
/-- made to its end -/
theorem RowG.done {α : Type} {sz : Nat} {I : ItemK α sz} {K : Nat → Prop} {P : Nat} {ty : TypeId} {its : List α} {pi : Value} {w : World} (h : RowG I K P ty its pi w) (hn : its.length ≤ 1000000) (hK : ∀ g, P < g → K g) : SlG I K w pi its := by
  obtain ⟨xs, hx, hc⟩ := h
  rcases hx.2 with ⟨e1, e2⟩ | ⟨g, cap, cur, e1, e2, e3, _⟩
  · have := List.length_eq_zero_iff.1 e2
    subst this
    subst e1
    exact ⟨_, _, rfl, by simp, fun i x hi => by simp at hi⟩
  · subst e1
    refine ⟨_, cap, rfl, by omega, fun i x hi => ?_⟩
    obtain ⟨ds, d2, d3⟩ := hc i x hi
    have d1 := I.size d2
    refine ⟨g, 0, rfl, hK g (by omega), (Array.getElem?_eq_some_iff.1 e3).1, ds, I.kept (Nat.le_refl _) (fun q hS _ => ⟨hS.1, rfl⟩) d2, fun j hj => ?_⟩
    have hd := d3 j hj
    rw [show ds[j]? = some (ds[j]'(by omega)) from Array.getElem?_eq_getElem (by omega)] at hd ⊢
    have := World.ownsRow.cells (g := g) hx rfl (i * sz + j) _ hd
    have hadd : (⟨g, 0, none⟩ : Addr).add (i * sz + j) = ⟨g, i * sz + j, none⟩ := by unfold Addr.add; split <;> simp_all
    rw [hadd] at this
    simpa using this
/-- one item more, by append -/
theorem wpList_append_item {α : Type} {sz : Nat} {I : ItemK α sz} {K : Nat → Prop} {P : Program} {w : World} {ops : Array Oper} {rest : List Oper} {o : Oper} {a : Act} {Q : Exit → Act → World → Prop} (hgd : o.guard = none) (s x : Operand) (t : TypeId)
    (ho : o.op = .call { callee := .builtin .append, args := #[s, x], argTypes := #[t, t] })
    (B : Nat) (e : TypeId) (i : TypeInfo) (z : Value) (bytes : Nat) (ht : P.underlying t = some (.slice e)) (hi : P.info? e = some i) (hz : i.zero = some z)
    (hsize : i.size = sz) (hby : i.bytes = bytes) (hzs : z.cells.size = sz) (hsz : 0 < sz) (hbb : bytes ≤ 100000)
    (v : Value) (its : List α) (hs : a.eval s = v) (hrow : RowG I K B e its v w)
    (b c : Nat) (y : α) (ds : Array Value) (T : TypeId) (zz : Nat × Nat) (hx : a.eval x = .slice (some ⟨b, 0, none⟩) 1 c) (hb : w.heap[b]? = some (.cells ds T zz)) (h1 : ∀ u ∈ ds.toList, u.oneCell' = true)
    (hv : I.at_ (OffG K v) w y ds) (hlen : its.length ≤ 1000000) (hbase : B + 1 ≤ w.heap.size)
    (h : ∀ g cap w', RowG I K B e (its ++ [y]) (.slice (some ⟨g, 0, none⟩) (its.length + 1) cap) w' → w.grownBy w' v.ownBlock → (v.ownBlock = some g ∨ g = w.heap.size) → g < w'.heap.size → wpList P ops Q rest (a.put o.dst (.slice (some ⟨g, 0, none⟩) (its.length + 1) cap)) w') : wpList P ops Q (o :: rest) a w := by
  obtain ⟨xs, hown, hc⟩ := hrow
  refine wpList_append_lies w hgd s x t ho (B + 1) e i z sz bytes ht hi hz hsize hby hzs hsz v its.length xs hs hown ⟨b, 0, none⟩ 1 c ds.toList hx (by rw [Array.length_toList, I.size hv, Nat.one_mul])
    (fun j u hu => by
      have hadd : (⟨b, 0, none⟩ : Addr).add j = ⟨b, j, none⟩ := by unfold Addr.add; split <;> simp_all
      rw [hadd]
      show w.cell? ⟨b, j, none⟩ = some u
      simp only [World.cell?, hb]
      simpa using hu) h1 (by omega) (by unfold maxLen; omega)
    (Nat.le_trans (Nat.mul_le_mul (show its.length + 1 ≤ 1000001 by omega) hbb) (by decide)) hbase w.heap.size rfl ?_
  intro g cap w' h2 h3 h4 h5
  exact h g cap w' (RowG.item (I := I) ⟨xs, hown, hc⟩ hown hv h2 h3 h4 (Nat.le_refl _)) h3 h4 h5
end Go.Proofs.YtkbcdlabfbonoaaGreatDoor
