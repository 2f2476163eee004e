/-
  Plain law: blanks ahead of, between and behind tokens change nothing but places. No program is in sight.
-/
import Derived.Test.YtkcbkfflabkcgaaDoorNf
namespace Go.Proofs.YtkcbkfflabkcgaaDoor
open Go

theorem take_stop (p : UInt8 → Bool) : ∀ q : List UInt8, (q.takeWhile p).length < q.length → p (q.getD (q.takeWhile p).length 0) = false
  | [], h => by simp at h
  | x :: q, h => by
    by_cases hx : p x = true
    · rw [List.takeWhile_cons, if_pos hx] at h ⊢
      exact take_stop p q (by simpa using h)
    · rw [List.takeWhile_cons, if_neg hx]
      simpa using hx
theorem far_next (p : UInt8 → Bool) {l : List UInt8} {b : Nat} (h : b + far p l b < l.length) : p (l.getD (b + far p l b) 0) = false := by
  have h1 := take_stop p (l.drop b) (by rw [List.length_drop]; unfold far at h; omega)
  unfold far
  rw [List.getD_eq_getElem?_getD, ← List.getElem?_drop, ← List.getD_eq_getElem?_getD]
  exact h1
theorem part_cat {l : List UInt8} {a b c : Nat} (h1 : a ≤ b) (h2 : b ≤ c) : part l a c = part l a b ++ part l b c := by
  unfold part
  rw [show c - a = (b - a) + (c - b) by omega, List.take_add, List.drop_drop]
  rw [show a + (b - a) = b by omega]
theorem drop_part {l : List UInt8} {a e : Nat} (h : a ≤ e) : l.drop a = part l a e ++ l.drop e := by
  unfold part
  have := (List.take_append_drop (e - a) (l.drop a)).symm
  rw [List.drop_drop, show a + (e - a) = e by omega] at this
  exact this

theorem far_runs (p : UInt8 → Bool) : ∀ (d r : List UInt8), d.all p = true → (∀ c q, r = c :: q → p c = false) → ((d ++ r).takeWhile p).length = d.length
  | [], r, _, h => by
    rw [List.nil_append]
    cases r with
    | nil => rfl
    | cons c q => rw [List.takeWhile_cons, if_neg (by rw [h c q rfl]; decide)]
  | c :: d, r, hd, h => by
    rw [List.all_cons, Bool.and_eq_true] at hd
    rw [List.cons_append, List.takeWhile_cons, if_pos hd.1, List.length_cons, far_runs p d r hd.2 h, List.length_cons]
/-- the tokens' own bytes, and the blanks ahead of each, with more blanks ahead -/
def joinB (l : List UInt8) (sp : Nat → List UInt8) : Nat → Nat → List Tk → List UInt8
  | _, _, [] => []
  | i, b, k :: ks => sp i ++ part l b k.next ++ joinB l sp (i + 1) k.next ks
def Like (k k' : Tk) : Prop := k.kind = k'.kind ∧ k.num = k'.num ∧ k.flt = k'.flt ∧ k.str = k'.str
def Likes : List Tk → List Tk → Prop
  | [], [] => True
  | k :: ks, k' :: ks' => Like k k' ∧ Likes ks ks'
  | _, _ => False
theorem Likes.len : ∀ {a b : List Tk}, Likes a b → a.length = b.length
  | [], [], _ => rfl
  | [], _ :: _, h => h.elim
  | _ :: _, [], h => h.elim
  | _ :: a, _ :: b, h => by rw [List.length_cons, List.length_cons, h.2.len]
theorem Likes.get : ∀ {a b : List Tk}, Likes a b → ∀ i, i < a.length → Like (a.getD i noTk) (b.getD i noTk)
  | [], [], _, i, hi => by simp at hi
  | [], _ :: _, h, _, _ => h.elim
  | _ :: _, [], h, _, _ => h.elim
  | _ :: _, _ :: _, h, 0, _ => h.1
  | _ :: a, _ :: b, h, i + 1, hi => by
    have := h.2.get i (by simpa using hi)
    exact this
/-- all blanks, at least one -/
def Blanks (s : List UInt8) : Prop := s.all isBl = true ∧ 1 ≤ s.length

theorem join_head {l : List UInt8} {sp : Nat → List UInt8} (hsp : ∀ i, Blanks (sp i)) (i b : Nat) (ks : List Tk) : ∃ c r, joinB l sp i b ks ++ [32] = c :: r ∧ isBl c = true := by
  cases ks with
  | nil => exact ⟨32, [], rfl, rfl⟩
  | cons k ks =>
    obtain ⟨h1, h2⟩ := hsp i
    unfold joinB
    cases hs : sp i with
    | nil => rw [hs] at h2; simp at h2
    | cons c r =>
      rw [hs, List.all_cons, Bool.and_eq_true] at h1
      exact ⟨c, _, rfl, h1.1⟩
theorem far_lead {l' : List UInt8} {b' : Nat} {s q : List UInt8} {x : UInt8} (h : l'.drop b' = s ++ (x :: q)) (hs : s.all isBl = true) (hx : isBl x = false) : far isBl l' b' = s.length := by
  unfold far
  rw [h]
  exact far_runs isBl s (x :: q) hs (fun c r e => by cases e; exact hx)

theorem join_toks {l : List UInt8} {sp : Nat → List UInt8} (hsp : ∀ i, Blanks (sp i)) : ∀ (f b : Nat) (ks : List Tk), allS l f b = (ks, 0, 0) → b ≤ l.length → l.length - b < f →
    ∀ (i : Nat) (l' : List UInt8) (b' f' : Nat), l'.drop b' = joinB l sp i b ks ++ [32] → b' ≤ l'.length → l'.length - b' < f' → ∃ ks', allS l' f' b' = (ks', 0, 0) ∧ Likes ks ks'
  | 0, b, ks, _, _, hf, _, _, _, _, _, _, _ => by omega
  | f + 1, b, ks, h, hb, hf, i, l', b', f', hl', hb', hf' => by
    obtain ⟨g, rfl⟩ : ∃ g, f' = g + 1 := ⟨f' - 1, by omega⟩
    have hlen' : (l'.drop b').length = l'.length - b' := List.length_drop
    by_cases h0 : (tokS l b).2 = 0
    · rcases tok_cases hb h0 with ⟨h1, h2⟩ | ⟨h1, h2⟩
      · rw [allS_end h0 (by rw [h2])] at h
        cases h
        have hd : l'.drop b' = [32] := hl'
        rw [hd] at hlen'
        have hfar : far isBl l' b' = 1 := by unfold far; rw [hd]; rfl
        have hend : b' + far isBl l' b' = l'.length := by rw [hfar]; simp at hlen'; omega
        have ht : tokS l' b' = (⟨1, b' + far isBl l' b', b' + far isBl l' b', 0, 0, []⟩, 0) := by
          unfold tokS
          dsimp only
          rw [if_pos hend]
        exact ⟨[], allS_end (by rw [ht]) (by rw [ht]), trivial⟩
      · have e := allS_go (f := f) [] h0 h2.kind
        rw [preT_nil, h] at e
        have hz : (allS l f (tokS l b).1.next).2.2 = 0 := by
          by_cases hq : (allS l f (tokS l b).1.next).2.2 = 0
          · exact hq
          · rw [preT_err _ hq] at e; rw [← e]
        have hz2 := allS_zero f _ hz
        generalize hk : (tokS l b).1 = k at *
        obtain ⟨ks2, hks2⟩ : ∃ ks2, allS l f k.next = (ks2, 0, 0) := ⟨(allS l f k.next).1, Prod.ext rfl (Prod.ext hz2 hz)⟩
        rw [hks2] at e
        have hks : ks = k :: ks2 := congrArg Prod.fst e
        subst hks
        generalize ha : b + far isBl l b = a at *
        have hab : b ≤ a := by omega
        have hlt := h2.lt
        have hle := h2.le
        obtain ⟨r1, r2⟩ := tok_rel (l := l) (b := b) ha.symm h1
        rw [hk] at r2
        have hx : isBl (l.getD a 0) = false := by
          have := far_next isBl (l := l) (b := b) (by rw [ha]; exact h1)
          rw [ha] at this
          exact this
        obtain ⟨k0, hk0⟩ : ∃ k0, readR (l.drop a) = (k0, 0) := ⟨(readR (l.drop a)).1, Prod.ext rfl (by rw [← r1, h0])⟩
        rw [hk0] at r2
        have hkk := r2 h0
        have hn0 : k.next = k0.next + a := by rw [hkk]; rfl
        rw [drop_part (l := l) (a := a) (e := k.next) (by omega)] at hk0
        have htl : (part l a k.next).length = k0.next := by rw [part_length hle]; omega
        have htx : ∃ q, part l a k.next = l.getD a 0 :: q := by
          have e1 := part_cat (l := l) (a := a) (b := a + 1) (c := k.next) (by omega) (by omega)
          rw [part_one h1] at e1
          exact ⟨_, e1⟩
        obtain ⟨c, r', hcr, hcb⟩ := join_head (l := l) hsp (i + 1) k.next ks2
        have hd' : l'.drop b' = (sp i ++ part l b a) ++ (part l a k.next ++ c :: r') := by
          rw [hl']
          show (sp i ++ part l b k.next ++ joinB l sp (i + 1) k.next ks2) ++ [32] = _
          rw [List.append_assoc, hcr, part_cat hab (by omega : a ≤ k.next)]
          simp
        have hbl : (sp i ++ part l b a).all isBl = true := by
          rw [List.all_append, (hsp i).1]
          have := part_all isBl l b
          rw [ha] at this
          rw [this]
          rfl
        generalize htt : part l a k.next = t at *
        obtain ⟨q, hq⟩ := htx
        have hfar : far isBl l' b' = (sp i ++ part l b a).length := by
          refine far_lead (q := q ++ c :: r') (x := l.getD a 0) ?_ hbl hx
          rw [hd', hq]; rfl
        generalize hsb : sp i ++ part l b a = sb at *
        have hda : l'.drop (b' + sb.length) = t ++ c :: r' := by
          rw [← List.drop_drop, hd', List.drop_left]
        have hlen2 : l'.length = b' + sb.length + t.length + (r'.length + 1) := by
          have := congrArg List.length hd'
          rw [List.length_drop] at this
          simp at this
          omega
        have hread : readR (l'.drop (b' + sb.length)) = (k0, 0) := by
          rw [hda]
          exact readR_same hcb (by rw [htl]; omega) hk0 htl.symm
        obtain ⟨s1, s2⟩ := tok_rel (l := l') (b := b') (a := b' + sb.length) (by rw [hfar]) (by omega)
        rw [hread] at s1 s2
        have hs1 : (tokS l' b').2 = 0 := s1
        have hs2 := s2 hs1
        have hkind : (tokS l' b').1.kind ≠ 1 := by
          rw [hs2]
          have := h2.kind
          rw [hkk] at this
          exact this
        have hnext : (tokS l' b').1.next = b' + sb.length + t.length := by
          rw [hs2]
          show k0.next + (b' + sb.length) = _
          omega
        have hdn : l'.drop (b' + sb.length + t.length) = joinB l sp (i + 1) k.next ks2 ++ [32] := by
          rw [← List.drop_drop, hda, List.drop_left, hcr]
        have h1le : 1 ≤ t.length := by rw [htl]; omega
        obtain ⟨ks', e1, e2⟩ := join_toks hsp f k.next ks2 hks2 hle (by omega) (i + 1) l' (b' + sb.length + t.length) g hdn (by omega) (by omega)
        have e3 := allS_go (l := l') (f := g) (b := b') [] hs1 hkind
        rw [preT_nil, hnext, e1] at e3
        refine ⟨(tokS l' b').1 :: ks', ?_, ?_, e2⟩
        · rw [e3]; simp [preT]
        · rw [hs2, hkk]
          exact ⟨rfl, rfl, rfl, rfl⟩
    · rw [allS_err h0] at h
      exact absurd (congrArg (fun q => q.2.2) h) h0
/-- the whole of it -/
theorem join_tokens {l : List UInt8} {sp : Nat → List UInt8} (hsp : ∀ i, Blanks (sp i)) {ks : List Tk} (hl : l.length ≤ 2000) (h : tokens l = (ks, 0, 0)) (hj : (joinB l sp 0 0 ks ++ [32]).length ≤ 2000) :
    ∃ ks', tokens (joinB l sp 0 0 ks ++ [32]) = (ks', 0, 0) ∧ Likes ks ks' := by
  unfold tokens at h
  rw [if_neg (by omega)] at h
  obtain ⟨ks', e1, e2⟩ := join_toks hsp (l.length + 1) 0 ks h (by omega) (by omega) 0 (joinB l sp 0 0 ks ++ [32]) 0 ((joinB l sp 0 0 ks ++ [32]).length + 1) rfl (by omega) (by omega)
  refine ⟨ks', ?_, e2⟩
  unfold tokens
  rw [if_neg (by omega), e1]
end Go.Proofs.YtkcbkfflabkcgaaDoor
