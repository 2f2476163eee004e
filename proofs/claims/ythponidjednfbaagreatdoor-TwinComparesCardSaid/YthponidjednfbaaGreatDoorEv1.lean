/-
  A small evaluator of closed calls: its data (tries, values up to where their blocks lie).
-/
import Derived.Orders
namespace Go.Proofs.YthponidjednfbaaGreatDoor.Ev

/-- tries -/
inductive T (α : Type) where
  | leaf
  | node (v : Option α) (l r : T α)
def T.get {α : Type} : T α → Nat → Option α
  | .leaf, _ => none
  | .node v l r, n => bif Nat.beq n 0 then v else bif Nat.beq (n % 2) 1 then l.get (n / 2) else r.get (n / 2 - 1)
def T.one {α : Type} (x : α) : Nat → Nat → T α
  | 0, _ => .leaf
  | k + 1, n => bif Nat.beq n 0 then .node (some x) .leaf .leaf else bif Nat.beq (n % 2) 1 then .node none (T.one x k (n / 2)) .leaf else .node none .leaf (T.one x k (n / 2 - 1))
def T.set {α : Type} (x : Option α) : T α → Nat → T α
  | .leaf, n => match x with | some x => T.one x (n + 1) n | none => .leaf
  | .node v l r, n => bif Nat.beq n 0 then .node x l r else bif Nat.beq (n % 2) 1 then .node v (l.set x (n / 2)) r else .node v l (r.set x (n / 2 - 1))
theorem beq_t {a b : Nat} (h : a = b) : Nat.beq a b = true := Nat.beq_eq.mpr h
theorem beq_f {a b : Nat} (h : a ≠ b) : Nat.beq a b = false := by
  cases hb : Nat.beq a b with
  | false => rfl
  | true => exact absurd (Nat.beq_eq.mp hb) h
theorem T.get_one {α : Type} (x : α) : ∀ k n m, n < k → (T.one x k n).get m = if m = n then some x else none
  | 0, _, _, h => by omega
  | k + 1, n, m, h => by
    rw [T.one]
    by_cases h0 : n = 0
    · rw [beq_t h0, cond_true, T.get]
      by_cases hm : m = 0
      · rw [beq_t hm, cond_true, if_pos (by omega)]
      · rw [beq_f hm, cond_false, T.get, T.get, if_neg (by omega)]; simp
    · rw [beq_f h0, cond_false]
      by_cases h1 : n % 2 = 1
      · rw [beq_t h1, cond_true, T.get]
        by_cases hm : m = 0
        · rw [beq_t hm, cond_true, if_neg (by omega)]
        · rw [beq_f hm, cond_false]
          by_cases hm1 : m % 2 = 1
          · rw [beq_t hm1, cond_true, T.get_one x k _ _ (by omega)]
            by_cases e : m = n
            · rw [if_pos e, if_pos (by omega)]
            · rw [if_neg e, if_neg (by omega)]
          · rw [beq_f hm1, cond_false, T.get, if_neg (by omega)]
      · rw [beq_f h1, cond_false, T.get]
        by_cases hm : m = 0
        · rw [beq_t hm, cond_true, if_neg (by omega)]
        · rw [beq_f hm, cond_false]
          by_cases hm1 : m % 2 = 1
          · rw [beq_t hm1, cond_true, T.get, if_neg (by omega)]
          · rw [beq_f hm1, cond_false, T.get_one x k _ _ (by omega)]
            by_cases e : m = n
            · rw [if_pos e, if_pos (by omega)]
            · rw [if_neg e, if_neg (by omega)]
theorem T.get_set {α : Type} (x : Option α) : ∀ (t : T α) (n m : Nat), (t.set x n).get m = if m = n then x else t.get m
  | .leaf, n, m => by
    cases x with
    | none => show T.leaf.get m = _; simp [T.get]
    | some x => show (T.one x (n + 1) n).get m = _; rw [T.get_one x _ _ _ (by omega), T.get]
  | .node v l r, n, m => by
    rw [T.set]
    by_cases h0 : n = 0
    · rw [beq_t h0, cond_true, T.get, T.get]
      by_cases hm : m = 0
      · rw [beq_t hm, cond_true, if_pos (by omega)]
      · rw [beq_f hm, if_neg (by omega)]; rfl
    · rw [beq_f h0, cond_false]
      by_cases h1 : n % 2 = 1
      · rw [beq_t h1, cond_true, T.get, T.get]
        by_cases hm : m = 0
        · rw [beq_t hm, if_neg (by omega)]; rfl
        · rw [beq_f hm, cond_false, cond_false]
          by_cases hm1 : m % 2 = 1
          · rw [beq_t hm1, cond_true, cond_true, T.get_set x l]
            by_cases e : m = n
            · rw [if_pos e, if_pos (by omega)]
            · rw [if_neg e, if_neg (by omega)]
          · rw [beq_f hm1, cond_false, cond_false, if_neg (by omega)]
      · rw [beq_f h1, cond_false, T.get, T.get]
        by_cases hm : m = 0
        · rw [beq_t hm, if_neg (by omega)]; rfl
        · rw [beq_f hm, cond_false, cond_false]
          by_cases hm1 : m % 2 = 1
          · rw [beq_t hm1, cond_true, cond_true, if_neg (by omega)]
          · rw [beq_f hm1, cond_false, cond_false, T.get_set x r]
            by_cases e : m = n
            · rw [if_pos e, if_pos (by omega)]
            · rw [if_neg e, if_neg (by omega)]
/-- several cells -/
def getN (cs : T Value) : Nat → Nat → Option (List Value)
  | _, 0 => some []
  | o, k + 1 => match cs.get o, getN cs (o + 1) k with
    | some v, some l => some (v :: l)
    | _, _ => none
def setN (cs : T Value) (o : Nat) : List Value → T Value
  | [] => cs
  | v :: l => setN (cs.set (some v) o) (o + 1) l
theorem getN_len {cs : T Value} : ∀ {k o : Nat} {l : List Value}, getN cs o k = some l → l.length = k
  | 0, _, _, h => by cases h; rfl
  | k + 1, o, l, h => by
    rw [getN] at h
    split at h
    · next h1 h2 => cases h; simp [getN_len h2]
    · cases h
theorem getN_get {cs : T Value} : ∀ {k o : Nat} {l : List Value}, getN cs o k = some l → ∀ i, i < k → l[i]? = cs.get (o + i)
  | 0, _, _, _, i, hi => by omega
  | k + 1, o, l, h, i, hi => by
    rw [getN] at h
    split at h
    · next v l' h1 h2 =>
      cases h
      cases i with
      | zero => simp [h1]
      | succ i => simp [getN_get h2 i (by omega), Nat.add_assoc, Nat.add_comm 1 i]
    · cases h
theorem setN_get : ∀ (l : List Value) (cs : T Value) (o i : Nat), (setN cs o l).get i = if o ≤ i ∧ i < o + l.length then l[i - o]? else cs.get i
  | [], cs, o, i => by rw [setN, if_neg (by simp)]
  | v :: l, cs, o, i => by
    rw [setN, setN_get l, T.get_set]
    by_cases h : i = o
    · subst h; rw [if_neg (by omega), if_pos rfl, if_pos (by simp)]; simp
    · by_cases h1 : o + 1 ≤ i ∧ i < o + 1 + l.length
      · rw [if_pos h1, if_pos (by simp; omega)]
        have : i - o = (i - (o + 1)) + 1 := by omega
        rw [this]; simp
      · rw [if_neg h1, if_neg h, if_neg (by simp; omega)]
/-- data without an address -/
def atom : Value → Bool
  | .bool _ | .int _ _ | .float _ _ | .complex _ _ _ | .string _ | .nilFunc | .nilIface => true
  | .pointer a => a.isNone
  | .slice a _ _ => a.isNone
  | .map r => r.isNone
  | .chan r => r.isNone
  | _ => false
def flatN : Nat → Value → Bool
  | k + 1, .agg cs => cs.toList.all (flatN k)
  | k + 1, .tuple cs => cs.toList.all (flatN k)
  | k + 1, .iface _ v => flatN k v
  | k + 1, .func _ a b => a.toList.all (flatN k) && b.toList.all (flatN k)
  | _, v => atom v
def flat (v : Value) : Bool := flatN 5 v
/-- where blocks lie (a block's number, how many elements its row has that nobody knows of) -/
abbrev Where := Nat → Option (Nat × Nat)
/-- a value, and the same one in memory -/
inductive VR (β : Where) : Value → Value → Prop
  | atom {v : Value} : atom v = true → VR β v v
  | ptr {n o : Nat} {r : Nat × Nat} : β n = some r → VR β (.pointer (some ⟨n, o, none⟩)) (.pointer (some ⟨r.1, o, none⟩))
  | sl {n o len c : Nat} {r : Nat × Nat} : β n = some r → VR β (.slice (some ⟨n, o, none⟩) len c) (.slice (some ⟨r.1, o, none⟩) len (c + r.2))
  | map {n : Nat} {r : Nat × Nat} : β n = some r → VR β (.map (some n)) (.map (some r.1))
  | agg {l l' : List Value} : l.length = l'.length → (∀ (i : Nat) v v', l[i]? = some v → l'[i]? = some v' → VR β v v') → VR β (.agg ⟨l⟩) (.agg ⟨l'⟩)
  | tuple {l l' : List Value} : l.length = l'.length → (∀ (i : Nat) v v', l[i]? = some v → l'[i]? = some v' → VR β v v') → VR β (.tuple ⟨l⟩) (.tuple ⟨l'⟩)
  | iface {t : TypeId} {v v' : Value} : VR β v v' → VR β (.iface t v) (.iface t v')
  | func {f : Fn} {a a' b b' : List Value} : a.length = a'.length → (∀ (i : Nat) v v', a[i]? = some v → a'[i]? = some v' → VR β v v') →
      b.length = b'.length → (∀ (i : Nat) v v', b[i]? = some v → b'[i]? = some v' → VR β v v') → VR β (.func f ⟨a⟩ ⟨b⟩) (.func f ⟨a'⟩ ⟨b'⟩)
/-- lists of these -/
def VL (β : Where) (l l' : List Value) : Prop := l.length = l'.length ∧ ∀ (i : Nat) v v', l[i]? = some v → l'[i]? = some v' → VR β v v'
/-- more is known of -/
def Ext (β β' : Where) : Prop := ∀ n r, β n = some r → β' n = some r
theorem Ext.refl (β : Where) : Ext β β := fun _ _ h => h
theorem Ext.trans {β γ δ : Where} (h : Ext β γ) (k : Ext γ δ) : Ext β δ := fun n r hr => k n r (h n r hr)
theorem VR.mono {β β' : Where} (h : Ext β β') {v v' : Value} (hv : VR β v v') : VR β' v v' := by
  induction hv with
  | atom h => exact .atom h
  | ptr hr => exact .ptr (h _ _ hr)
  | sl hr => exact .sl (h _ _ hr)
  | map hr => exact .map (h _ _ hr)
  | agg hl _ ih => exact .agg hl ih
  | tuple hl _ ih => exact .tuple hl ih
  | iface _ ih => exact .iface ih
  | func h1 _ h2 _ ih1 ih2 => exact .func h1 ih1 h2 ih2
theorem VL.mono {β β' : Where} (h : Ext β β') {l l' : List Value} (hl : VL β l l') : VL β' l l' := ⟨hl.1, fun i v v' a b => (hl.2 i v v' a b).mono h⟩
theorem VL.nil {β : Where} : VL β [] [] := ⟨rfl, fun _ _ _ h => by simp at h⟩
theorem VL.cons {β : Where} {v v' : Value} {l l' : List Value} (h : VR β v v') (hl : VL β l l') : VL β (v :: l) (v' :: l') :=
  ⟨by simp [hl.1], fun i u u' hu hu' => by
    cases i with
    | zero => simp at hu hu'; subst hu; subst hu'; exact h
    | succ i => simp at hu hu'; exact hl.2 i u u' hu hu'⟩
theorem VL.append {β : Where} {l l' m m' : List Value} (h : VL β l l') (k : VL β m m') : VL β (l ++ m) (l' ++ m') :=
  ⟨by simp [h.1, k.1], fun i u u' hu hu' => by
    by_cases hi : i < l.length
    · rw [List.getElem?_append_left hi] at hu
      rw [List.getElem?_append_left (by rw [← h.1]; exact hi)] at hu'
      exact h.2 i u u' hu hu'
    · rw [List.getElem?_append_right (by omega)] at hu
      rw [List.getElem?_append_right (by rw [← h.1]; omega), ← h.1] at hu'
      exact k.2 _ u u' hu hu'⟩
theorem VL.get {β : Where} {l l' : List Value} (h : VL β l l') {i : Nat} {v : Value} (hv : l[i]? = some v) : ∃ v', l'[i]? = some v' ∧ VR β v v' := by
  have hi : i < l.length := by
    rcases Nat.lt_or_ge i l.length with h' | h'
    · exact h'
    · rw [List.getElem?_eq_none h'] at hv; cases hv
  have hi' : i < l'.length := h.1 ▸ hi
  exact ⟨l'[i], List.getElem?_eq_getElem hi', h.2 i v _ hv (List.getElem?_eq_getElem hi')⟩
theorem VL.agg {β : Where} {l l' : List Value} (h : VL β l l') : VR β (.agg ⟨l⟩) (.agg ⟨l'⟩) := .agg h.1 h.2
theorem VL.tuple {β : Where} {l l' : List Value} (h : VL β l l') : VR β (.tuple ⟨l⟩) (.tuple ⟨l'⟩) := .tuple h.1 h.2
theorem list_same {l l' : List Value} (hl : l.length = l'.length) (h : ∀ (i : Nat) v v', l[i]? = some v → l'[i]? = some v' → v' = v) : l' = l := by
  apply List.ext_getElem? 
  intro i
  by_cases hi : i < l.length
  · rw [List.getElem?_eq_getElem hi, List.getElem?_eq_getElem (hl ▸ hi)]
    exact congrArg some (h i _ _ (List.getElem?_eq_getElem hi) (List.getElem?_eq_getElem (hl ▸ hi)))
  · rw [List.getElem?_eq_none (by omega), List.getElem?_eq_none (by omega)]
theorem VR.of_atom {β : Where} {v v' : Value} (ha : Ev.atom v = true) (h : VR β v v') : v' = v := by
  cases h <;> first | rfl | (simp [Ev.atom] at ha)
theorem flat_same {β : Where} : ∀ (k : Nat) {v v' : Value}, flatN k v = true → VR β v v' → v' = v
  | 0, v, v', hf, h => VR.of_atom (by simpa [flatN] using hf) h
  | k + 1, v, v', hf, h => by
    cases h with
    | atom _ => rfl
    | ptr _ => simp [flatN, Ev.atom] at hf
    | sl _ => simp [flatN, Ev.atom] at hf
    | map _ => simp [flatN, Ev.atom] at hf
    | agg hl hi =>
      simp only [flatN, List.all_eq_true] at hf
      rw [list_same hl fun i u u' hu hu' => flat_same k (hf u (List.mem_of_getElem? hu)) (hi i u u' hu hu')]
    | tuple hl hi =>
      simp only [flatN, List.all_eq_true] at hf
      rw [list_same hl fun i u u' hu hu' => flat_same k (hf u (List.mem_of_getElem? hu)) (hi i u u' hu hu')]
    | iface hv => simp only [flatN] at hf; rw [flat_same k hf hv]
    | func h1 h2 h3 h4 =>
      simp only [flatN, Bool.and_eq_true, List.all_eq_true] at hf
      rw [list_same h1 fun i u u' hu hu' => flat_same k (hf.1 u (List.mem_of_getElem? hu)) (h2 i u u' hu hu'),
        list_same h3 fun i u u' hu hu' => flat_same k (hf.2 u (List.mem_of_getElem? hu)) (h4 i u u' hu hu')]
theorem flat_refl {β : Where} : ∀ (k : Nat) {v : Value}, flatN k v = true → VR β v v
  | 0, v, hf => .atom (by simpa [flatN] using hf)
  | k + 1, v, hf => by
    cases v with
    | agg cs =>
      obtain ⟨cs⟩ := cs
      simp only [flatN, List.all_eq_true] at hf
      exact .agg rfl fun i u u' hu hu' => by rw [hu] at hu'; cases hu'; exact flat_refl k (hf u (List.mem_of_getElem? hu))
    | tuple cs =>
      obtain ⟨cs⟩ := cs
      simp only [flatN, List.all_eq_true] at hf
      exact .tuple rfl fun i u u' hu hu' => by rw [hu] at hu'; cases hu'; exact flat_refl k (hf u (List.mem_of_getElem? hu))
    | iface t v => simp only [flatN] at hf; exact .iface (flat_refl k hf)
    | func f a b =>
      obtain ⟨a⟩ := a
      obtain ⟨b⟩ := b
      simp only [flatN, Bool.and_eq_true, List.all_eq_true] at hf
      exact .func rfl (fun i u u' hu hu' => by rw [hu] at hu'; cases hu'; exact flat_refl k (hf.1 u (List.mem_of_getElem? hu))) rfl
        (fun i u u' hu hu' => by rw [hu] at hu'; cases hu'; exact flat_refl k (hf.2 u (List.mem_of_getElem? hu)))
    | _ => exact .atom (by simpa [flatN] using hf)
/-- one cell -/
def one (v : Value) : Bool := match v with | .agg _ | .tuple _ => false | _ => true
theorem VR.one {β : Where} {v v' : Value} (h : VR β v v') : Ev.one v' = Ev.one v := by cases h <;> rfl
theorem VR.cells {β : Where} {v v' : Value} (h : VR β v v') : VL β v.cells.toList v'.cells.toList := by
  cases h with
  | agg hl hi => exact ⟨hl, hi⟩
  | atom ha =>
    cases v <;> first | (simp [Ev.atom] at ha; done) | exact VL.cons (.atom ha) VL.nil
  | ptr hr => exact VL.cons (.ptr hr) VL.nil
  | sl hr => exact VL.cons (.sl hr) VL.nil
  | map hr => exact VL.cons (.map hr) VL.nil
  | tuple hl hi => exact VL.cons (.tuple hl hi) VL.nil
  | iface hv => exact VL.cons (.iface hv) VL.nil
  | func h1 h2 h3 h4 => exact VL.cons (.func h1 h2 h3 h4) VL.nil
end Go.Proofs.YthponidjednfbaaGreatDoor.Ev
