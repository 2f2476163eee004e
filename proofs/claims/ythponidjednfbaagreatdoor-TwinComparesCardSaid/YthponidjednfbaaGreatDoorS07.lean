/-
  O1 in one text.
-/
import Derived.Below
import Derived.ChangeArms
import Derived.DataReads
import Derived.IntWalk
import Derived.Laws.Bits64b
import Derived.Laws.FloatBits
import Derived.Lib.AtoiAll
import Derived.Lib.Hide
import Derived.Lib.IndexMore
import Derived.Lib.ItoaNum
import Derived.Lib.ParseIntB
import Derived.SizedLaws
import Derived.Tactics
import Derived.Tactics2
import Derived.Test.YthponidjednfbaaGreatDoorChecked
import Derived.WalkKit
import Derived.WideShapes
import Ieee.Arith
import Derived.Test.YthponidjednfbaaGreatDoorS00
namespace Go.Proofs.YthponidjednfbaaGreatDoor
open Go.RowKit
/-- each string and slice within it is within the row's bound -/
def Sized {H : Type} (P : Program) (t : TypeId) (d : DataW H) : Prop := ∀ n ∈ DataW.weights P t d, n ≤ reachBytes
section
variable {H : Type} {enc : TypeId × Value → H} {P : Program} {w : World} {base : Nat} {sp : Nat → Bool} {held : Bool}
theorem Sized.part {t : TypeId} {fs : Array Field} {parts : List (DataW H)} (ht : P.underlying t = some (.struct fs)) (h : Sized P t (.agg parts)) {i : Nat} {f : Field} {d : DataW H} (hf : fs[i]? = some f) (hd : parts[i]? = some d) : Sized P f.type d := by
  intro n hn
  refine h n ?_
  simp only [DataW.weights, ht]
  exact DataW.weights_mem_each (by rw [List.getElem?_map, Array.getElem?_toList, hf]; rfl) hd n hn
theorem weights_mem_all {e : TypeId} : ∀ {l : List (DataW H)} {i : Nat} {d : DataW H}, l[i]? = some d → ∀ n ∈ DataW.weights P e d, n ∈ DataW.weightsAll P e l
  | d0 :: l, 0, d, h, n, hn => by
    simp only [List.getElem?_cons_zero, Option.some.injEq] at h
    subst h
    simp only [DataW.weightsAll, List.mem_append]
    exact Or.inl hn
  | d0 :: l, i + 1, d, h, n, hn => by
    simp only [List.getElem?_cons_succ] at h
    simp only [DataW.weightsAll, List.mem_append]
    exact Or.inr (weights_mem_all h n hn)
  | [], _, _, h, _, _ => by simp at h
theorem Sized.elem {t e : TypeId} {elems rest : List (DataW H)} (ht : P.underlying t = some (.slice e)) (h : Sized P t (.slice elems rest)) {i : Nat} {d : DataW H} (hd : elems[i]? = some d) : Sized P e d := by
  intro n hn
  refine h n ?_
  simp only [DataW.weights, ht]
  exact List.mem_cons_of_mem _ (List.mem_append_left _ (weights_mem_all hd n hn))
theorem Sized.slice {t e : TypeId} {elems rest : List (DataW H)} (ht : P.underlying t = some (.slice e)) (h : Sized P t (.slice elems rest)) : (elems.length + rest.length) * P.bytesOf e ≤ reachBytes := by
  refine h _ ?_
  simp only [DataW.weights, ht]
  exact List.mem_cons_self
theorem Sized.string {t : TypeId} {l : List UInt8} (h : Sized P t (.lit (.string l) : DataW H)) : l.length ≤ reachBytes := h _ (by simp [DataW.weights])
theorem open_string {t : TypeId} {n : Nat} {cs : List Value} {x : DataW H × List MemPlace} (ht : P.underlying t = some .string) (h : DataW.trod enc P w base sp held n t cs = some x) (hz : Sized P t x.1) :
    ∃ l : List UInt8, cs = [.string ⟨l.toArray⟩] ∧ l.length ≤ 140737488355328 := by
  obtain ⟨s, rfl, rfl, _⟩ := DataW.trod_string ht h
  refine ⟨s.data.toList, by cases s; simp, Nat.le_trans hz.string (by unfold reachBytes; omega)⟩
theorem open_int {t : TypeId} {n : Nat} {cs : List Value} {x : DataW H × List MemPlace} (ht : P.underlying t = some (.int .i64)) (h : DataW.trod enc P w base sp held n t cs = some x) :
    ∃ k : Int, cs = [.int .i64 k] ∧ -9223372036854775808 ≤ k ∧ k ≤ 9223372036854775807 := by
  obtain ⟨k, rfl, _, hw⟩ := DataW.trod_int ht h
  have hw : decide (IntKind.i64.min ≤ k) = true ∧ decide (k ≤ IntKind.i64.max) = true := by simpa [Lit.wf] using hw
  have h1 := of_decide_eq_true hw.1
  have h2 := of_decide_eq_true hw.2
  exact ⟨k, rfl, h1, h2⟩
theorem open_float64 {t : TypeId} {n : Nat} {cs : List Value} {x : DataW H × List MemPlace} (ht : P.underlying t = some (.float .f64)) (h : DataW.trod enc P w base sp held n t cs = some x) :
    ∃ k : Nat, cs = [.float .f64 k] ∧ k < 18446744073709551616 := by
  cases n with
  | zero => simp [DataW.trod] at h
  | succ n =>
    unfold DataW.trod at h
    rw [ht] at h
    split at h
    all_goals first | (simp_all; done) | skip
    rename_i k k' b heq
    simp only [Option.some.injEq, TypeDesc.float.injEq] at heq
    subst heq
    split at h
    · rename_i hw
      obtain ⟨rfl, hw⟩ := hw
      exact ⟨b, rfl, by simpa [Lit.wf] using hw⟩
    · cases h
/-- a slice that came in: its elements, each with its reading -/
theorem open_sl {t e : TypeId} {size fuel : Nat} {cs : List Value} {x : DataW H × List MemPlace} (ht : P.underlying t = some (.slice e)) (hc : P.cellsOf e = size) (hs : 0 < size) (hb : 0 < P.bytesOf e)
    (h : DataW.trod enc P w base sp held fuel t cs = some x) (hz : Sized P t x.1) :
    ∃ p len cap, cs = [.slice p len cap] ∧ len ≤ 140737488355328 ∧ (len = 0 ∨ ∃ g off m, p = some ⟨g, off, none⟩ ∧ g < w.heap.size ∧ fuel = m + 1 ∧
      ∀ i, i < len → ∃ ds y, ds.length = size ∧ DataW.trod enc P w base sp held m e ds = some y ∧ Sized P e y.1 ∧ ∀ j, j < size → w.cell? ⟨g, off + i * size + j, none⟩ = ds[j]?) := by
  rcases DataW.trod_slice ht h with ⟨rfl, _⟩ | ⟨a, len, cap, elems, rest, m, rfl, rfl, hx, _, _, _, hlen, hel, _, _⟩
  · exact ⟨none, 0, 0, rfl, by omega, .inl rfl⟩
  · rw [hx] at hz
    have hsz := hz.slice ht
    rw [List.length_map, List.length_map, hlen] at hsz
    have hl : len ≤ 140737488355328 := by
      have h1 : len * 1 ≤ (len + rest.length) * P.bytesOf e := Nat.mul_le_mul (by omega) hb
      unfold reachBytes at hsz
      omega
    have each : ∀ i, i < len → ∃ ds y, ds.length = size ∧ DataW.trod enc P w base sp held m e ds = some y ∧ Sized P e y.1 ∧ ∀ j, j < size → w.cell? ((a.add (i * size)).add j) = ds[j]? := by
      intro i hi
      have hE := hel i hi
      rw [hc] at hE
      have hi' : i < elems.length := by omega
      rw [List.getElem?_eq_getElem hi', Option.bind_eq_some_iff] at hE
      obtain ⟨ds, hds, hy⟩ := hE
      unfold World.cells? at hds
      split at hds
      · have h1 := mapM_some_length hds
        simp only [List.length_range] at h1
        exact ⟨ds, _, h1, hy, hz.elem ht (i := i) (by rw [List.getElem?_map, List.getElem?_eq_getElem hi']; rfl), fun j hj => mapM_some_get hds j j (by simp [hj])⟩
      · cases hds
    by_cases h0 : len = 0
    · exact ⟨some a, len, cap, rfl, hl, .inl h0⟩
    · obtain ⟨ds, y, k1, _, _, k2⟩ := each 0 (by omega)
      have k3 := k2 0 hs
      have hd0 : ∃ v, ds[0]? = some v := ⟨ds[0]'(by omega), List.getElem?_eq_getElem (by omega)⟩
      obtain ⟨v, hv⟩ := hd0
      rw [hv] at k3
      have hspot := World.cell?_spot k3
      obtain ⟨g, off, e0⟩ := a
      have hsp : e0 = none := by
        simp [Addr.add] at hspot
        exact hspot
      subst hsp
      rw [Go.WideShapes.add_plain, Go.WideShapes.add_plain] at k3
      refine ⟨_, len, cap, rfl, hl, .inr ⟨g, off, m, rfl, World.block_lt_of_cell? w _ k3, rfl, fun i hi => ?_⟩⟩
      obtain ⟨ds, y, k1, k2, k3, k4⟩ := each i hi
      refine ⟨ds, y, k1, k2, k3, fun j hj => ?_⟩
      rw [← k4 j hj, Go.WideShapes.add_plain, Go.WideShapes.add_plain]
/-- a struct that came in: its fields, each with its reading -/
theorem open_st {t : TypeId} {fs : Array Field} {fuel : Nat} {cs : List Value} {x : DataW H × List MemPlace} (ht : P.underlying t = some (.struct fs)) (h : DataW.trod enc P w base sp held fuel t cs = some x) (hz : Sized P t x.1) :
    ∃ n, fuel = n + 1 ∧ cs.length = P.cellsOf t ∧ ∀ (i : Nat) (f : Field), fs[i]? = some f → ∃ y, DataW.trod enc P w base sp held n f.type ((cs.drop f.offset).take (P.cellsOf f.type)) = some y ∧ Sized P f.type y.1 := by
  obtain ⟨xs, n, rfl, hx, hl, hn, hf⟩ := DataW.trod_struct ht h
  refine ⟨n, rfl, hl, fun i f hi => ?_⟩
  have h1 := hf i f hi
  have hi' : i < xs.length := by rw [hn]; exact (Array.getElem?_eq_some_iff.1 hi).1
  rw [List.getElem?_eq_getElem hi'] at h1
  rw [hx] at hz
  exact ⟨_, h1, hz.part ht hi (by rw [List.getElem?_map, List.getElem?_eq_getElem hi']; rfl)⟩
end
/-- what holds at each place, as one list -/
theorem list_of {T : Type} (d : T) : ∀ (n : Nat) (p : Nat → T → Prop), (∀ i, i < n → ∃ v, p i v) → ∃ l : List T, l.length = n ∧ ∀ i, i < n → p i (l.getD i d)
  | 0, _, _ => ⟨[], rfl, fun i hi => absurd hi (Nat.not_lt_zero i)⟩
  | n + 1, p, h => by
    obtain ⟨v, hv⟩ := h 0 (by omega)
    obtain ⟨l, h1, h2⟩ := list_of d n (fun i => p (i + 1)) (fun i hi => h (i + 1) (by omega))
    refine ⟨v :: l, by simp [h1], fun i hi => ?_⟩
    match i, hi with
    | 0, _ => exact hv
    | i + 1, hi => simpa using h2 i (by omega)
theorem ValAt.le {w : World} {d e : Nat} {v : VT} {cs : Array Value} (h : ValAt w d v cs) (hd : d ≤ e) : ValAt w e v cs := by
  obtain ⟨k, rfl⟩ := Nat.exists_eq_add_of_le hd
  clear hd
  induction k with
  | zero => exact h
  | succ k ih => exact ValAt.more _ _ _ ih
end Go.Proofs.YthponidjednfbaaGreatDoor
