/-
  The evaluator: regions that draw their order.
-/
import Derived.Test.YthponidjednfbaaGreatDoorEv7
namespace Go.Proofs.YthponidjednfbaaGreatDoor.Ev
open RowKit

def ed (ops : Array Oper) (q p : Nat) : Bool := match ops[q]? with | some o => o.after.any fun e => Region.binds .any e && e.on == p | none => false
/-- temporaries are written once, and what is read is written ahead, or behind -/
def ssa (ops : Array Oper) : Bool :=
  (List.range ops.size).all fun q => (List.range ops.size).all fun p => Nat.beq p q ||
    match ops[q]?, ops[p]? with
    | some x, some y => match y.dst with
      | some d => x.dst != some d && (!(x.looksAt ops).contains d || ed ops q p || ed ops p q)
      | none => true
    | _, _ => false
theorem ssa_spec {ops : Array Oper} (h : ssa ops = true) {q p : Nat} {x y : Oper} {d : Tmp} (hq : ops[q]? = some x) (hp : ops[p]? = some y) (hne : p ≠ q) (hd : y.dst = some d) :
    x.dst ≠ some d ∧ (d ∈ x.looksAt ops → ed ops q p = true ∨ ed ops p q = true) := by
  have hql : q < ops.size := (Array.getElem?_eq_some_iff.1 hq).1
  have hpl : p < ops.size := (Array.getElem?_eq_some_iff.1 hp).1
  have := (List.all_eq_true.1 ((List.all_eq_true.1 h) q (List.mem_range.2 hql))) p (List.mem_range.2 hpl)
  rw [beq_f hne, Bool.false_or, hq, hp] at this
  simp only [hd, Bool.and_eq_true, bne_iff_ne, ne_eq, Bool.or_eq_true, Bool.not_eq_true'] at this
  refine ⟨this.1, fun hm => ?_⟩
  rcases this.2 with (h1 | h1) | h1
  · simp at h1; exact absurd hm h1
  · exact .inl h1
  · exact .inr h1
def rdy (ops : Array Oper) (done : List Nat) (i : Nat) : Bool :=
  !done.contains i && (match ops[i]? with | some o => o.after.all fun e => !Region.binds .any e || done.contains e.on | none => false)
def rdys (ops : Array Oper) (done : List Nat) : List Nat := (List.range ops.size).filter (rdy ops done)
theorem ed_spec {ops : Array Oper} {q p : Nat} : ed ops q p = true ↔ ∃ o, ops[q]? = some o ∧ ∃ e ∈ o.after, Region.binds .any e = true ∧ e.on = p := by
  unfold ed
  cases h : ops[q]? with
  | none => simp
  | some o => simp only [Array.any_eq_true', Bool.and_eq_true, beq_iff_eq, Option.some.injEq, exists_eq_left']
theorem rdy_spec {ops : Array Oper} {done : List Nat} {i : Nat} : rdy ops done i = true ↔ i ∉ done ∧ i < ops.size ∧ ∀ p, ed ops i p = true → p ∈ done := by
  unfold rdy
  cases h : ops[i]? with
  | none =>
    simp only [Bool.and_false, Bool.false_eq_true, false_iff]
    rintro ⟨_, hl, _⟩
    rw [Array.getElem?_eq_getElem hl] at h; cases h
  | some o =>
    have hl : i < ops.size := (Array.getElem?_eq_some_iff.1 h).1
    simp only [Bool.and_eq_true, Bool.not_eq_true', Array.all_eq_true', Bool.or_eq_true]
    constructor
    · rintro ⟨h1, h2⟩
      refine ⟨by simpa using h1, hl, fun p hp => ?_⟩
      obtain ⟨o', ho', e, he, hb, rfl⟩ := ed_spec.1 hp
      rw [h] at ho'; cases ho'
      rcases h2 e he with h3 | h3
      · rw [hb] at h3; cases h3
      · simpa using h3
    · rintro ⟨h1, _, h2⟩
      refine ⟨by simpa using h1, fun e he => ?_⟩
      cases hb : Region.binds .any e with
      | false => exact .inl rfl
      | true => exact .inr (by simpa using h2 e.on (ed_spec.2 ⟨o, h, e, he, hb, rfl⟩))
/-- what is carried out, in a region's own list -/
def isL (L : Array Bool) (i : Nat) : Prop := L.getD i false = true
theorem ready_spec {ops : Array Oper} {L : Array Bool} (hL : L.size = ops.size) {i : Nat} : i ∈ Region.ready .any ops L ↔ ¬ isL L i ∧ i < ops.size ∧ ∀ p, ed ops i p = true → isL L p := by
  unfold Region.ready isL
  simp only [List.mem_filter, List.mem_range, Bool.and_eq_true, Bool.not_eq_true']
  constructor
  · rintro ⟨hi, h1, h2⟩
    have hi' : i < L.size := hL ▸ hi
    refine ⟨?_, hi, fun p hp => ?_⟩
    · simp only [Array.getD_eq_getD_getElem?, Array.getElem?_eq_getElem hi', Option.getD_some] at h1 ⊢; rw [h1]; simp
    · obtain ⟨o, ho, e, he, hb, rfl⟩ := ed_spec.1 hp
      rw [ho] at h2
      simp only [Option.map_some, Option.getD_some, Array.all_eq_true', Bool.or_eq_true, Bool.not_eq_true'] at h2
      rcases h2 e he with h3 | h3
      · rw [hb] at h3; cases h3
      · exact h3
  · rintro ⟨h1, hi, h2⟩
    have hi' : i < L.size := hL ▸ hi
    refine ⟨hi, ?_, ?_⟩
    · simp only [Array.getD_eq_getD_getElem?, Array.getElem?_eq_getElem hi', Option.getD_some] at h1 ⊢; simpa using h1
    · rw [Array.getElem?_eq_getElem hi]
      simp only [Option.map_some, Option.getD_some, Array.all_eq_true', Bool.or_eq_true, Bool.not_eq_true']
      intro e he
      cases hb : Region.binds .any e with
      | false => exact .inl rfl
      | true => exact .inr (h2 e.on (ed_spec.2 ⟨_, Array.getElem?_eq_getElem hi, e, he, hb, rfl⟩))
theorem isL_set {L : Array Bool} {i j : Nat} (hi : i < L.size) : isL (L.setIfInBounds i true) j ↔ j = i ∨ isL L j := by
  unfold isL
  by_cases e : j = i
  · subst e; simp [Array.getD_eq_getD_getElem?, hi]
  · simp [Array.getD_eq_getD_getElem?, Array.getElem?_setIfInBounds_ne (Ne.symm e), e]
/-- equal values (no equation of their types is asked for) -/
def veq1 : Value → Value → Bool
  | .bool a, .bool b => a == b
  | .int j a, .int k b => decide (j = k) && decide (a = b)
  | .float j a, .float k b => decide (j = k) && Nat.beq a b
  | .string a, .string b => decide (a.data.toList = b.data.toList)
  | .pointer a, .pointer b => decide (a = b)
  | .slice a n c, .slice b m d => decide (a = b) && Nat.beq n m && Nat.beq c d
  | .map a, .map b => decide (a = b)
  | .nilFunc, .nilFunc => true
  | .nilIface, .nilIface => true
  | _, _ => false
def veqL : List Value → List Value → Bool
  | [], [] => true
  | a :: l, b :: m => veq1 a b && veqL l m
  | _, _ => false
def veq : Value → Value → Bool
  | .agg a, .agg b => veqL a.toList b.toList
  | a, b => veq1 a b
theorem veq1_eq {a b : Value} (h : veq1 a b = true) : a = b := by
  unfold veq1 at h
  split at h
  · rw [beq_iff_eq.1 h]
  · simp only [Bool.and_eq_true, decide_eq_true_eq] at h; rw [h.1, h.2]
  · simp only [Bool.and_eq_true, decide_eq_true_eq] at h; rw [h.1, Nat.eq_of_beq_eq_true h.2]
  · rw [ByteArray.ext (Array.toList_inj.1 (of_decide_eq_true h))]
  · rw [of_decide_eq_true h]
  · simp only [Bool.and_eq_true, decide_eq_true_eq] at h; rw [h.1.1, Nat.eq_of_beq_eq_true h.1.2, Nat.eq_of_beq_eq_true h.2]
  · rw [of_decide_eq_true h]
  · rfl
  · rfl
  · cases h
theorem veqL_eq : ∀ {a b : List Value}, veqL a b = true → a = b
  | [], [], _ => rfl
  | a :: l, b :: m, h => by
    simp only [veqL, Bool.and_eq_true] at h
    rw [veq1_eq h.1, veqL_eq h.2]
  | [], _ :: _, h => by simp [veqL] at h
  | _ :: _, [], h => by simp [veqL] at h
theorem veq_eq {a b : Value} (h : veq a b = true) : a = b := by
  unfold veq at h
  split at h
  · rw [Array.toList_inj.1 (veqL_eq h)]
  · exact veq1_eq h
/-- loads that were taken early -/
abbrev Ld := TypeId × Nat × Nat × Value
def ldOK (P : Program) (hp : T Blk) (l : Ld) : Bool := match loadAt P hp l.1 l.2.1 l.2.2.1 with | some v => veq v l.2.2.2 | none => false
/-- 0: it only looks; 1: it makes a block; 2: it acts -/
def kind : Op → Nat
  | .alloc _ | .box _ _ | .makeSlice _ _ _ | .buildSlice _ _ _ => 1
  | .store _ _ _ | .makeMap _ _ | .lookup _ _ _ _ | .mapUpdate _ _ _ _ | .defer _ | .insert _ _ _ _ | .panic _ | .range _ _ | .next _ _ | .entry _ | .ready _ | .waits _ | .go _ | .send _ _ | .recv _ _ _ | .select _ _ | .mapEntry _ _ _ | .entryStore _ _ _ _ | .makeChan _ _ => 2
  | .call c => match c.callee with
    | .builtin .append => 2
    | .builtin _ => 0
    | _ => 2
  | _ => 0
def ldOf (ev : Val) (o : Oper) (v : Value) : List Ld :=
  match o.op with
  | .load t a => match ev a with
    | some (.pointer (some ⟨n, off, none⟩)) => [(t, n, off, v)]
    | _ => []
  | _ => []
/-- an operation that the region may lag behind with -/
def lagDo (P : Program) (ops : Array Oper) (s : St) (o : Oper) : Option (St × List Ld) :=
  match wantedF ops o s.tm.get with
  | some false => match s.put o.dst undef with | some s' => some (s', []) | none => none
  | some true =>
    bif Nat.beq (kind o.op) 1 then
      match evM P (evF s.tm.get) o with
      | some (cs, ty, sh) => bif Nat.ble cs.length 1000000 then
          match St.put { s with hp := s.hp.set (some (.row (setN .leaf 0 cs) cs.length ty)) s.nx, nx := s.nx + 1 } o.dst (mkV sh s.nx) with
          | some s' => some (s', [])
          | none => none
        else none
      | none => none
    else
      match evQ P (evF s.tm.get) s.hp o with
      | some v => match s.put o.dst v with | some s' => some (s', ldOf (evF s.tm.get) o v) | none => none
      | none => none
  | none => none
def lagable (ops : Array Oper) (s : St) (i : Nat) : Bool :=
  match ops[i]? with
  | some o => !Nat.beq (kind o.op) 2 || (match wantedF ops o s.tm.get with | some false => true | _ => false)
  | none => false
/-- the block that a store goes to -/
def stOf (ev : Val) (o : Oper) : Option Nat :=
  match o.op, o.dst with
  | .store _ a _, none => match ev a with
    | some (.pointer (some ⟨n, _, none⟩)) => some n
    | _ => none
  | _, _ => none
def evAny (P : Program) (call : CallE) (ops : Array Oper) : Nat → List Nat → List (Nat × Ld) → St → Option St
  | 0, _, _, _ => none
  | k + 1, done, lds, s =>
    match (rdys ops done).find? (lagable ops s) with
    | some i => match ops[i]? with
      | some o => match lagDo P ops s o with
        | some (s', ld) => bif (ld.map (i, ·) ++ lds).all (fun x => ldOK P s'.hp x.2) then evAny P call ops k (i :: done) (ld.map (i, ·) ++ lds) s' else none
        | none => none
      | none => none
    | none => match rdys ops done with
      | [] => some s
      | [j] => match ops[j]? with
        | some o => match wantedF ops o s.tm.get with
          | some true => match stepV P call s o with
            | some s' => bif (lds.filter fun x => !ed ops j x.1).all (fun x => ldOK P s'.hp x.2) then evAny P call ops k (j :: done) (lds.filter fun x => !ed ops j x.1) s' else none
            | none => none
          | _ => none
        | none => none
      | [j1, j2] => match ops[j1]?, ops[j2]? with
        | some o1, some o2 => match stOf (evF s.tm.get) o1, stOf (evF s.tm.get) o2, wantedF ops o1 s.tm.get, wantedF ops o2 s.tm.get, stepV P call s o1, stepV P call s o2 with
          | some n1, some n2, some true, some true, some s1, some s2 =>
            bif !Nat.beq n1 n2 && rdys ops (j1 :: done) == [j2] && rdys ops (j2 :: done) == [j1] && rdys ops (j2 :: j1 :: done) == [] && rdys ops (j1 :: j2 :: done) == [] &&
              (lds.filter fun x => !ed ops j1 x.1).all (fun x => ldOK P s1.hp x.2) && (lds.filter fun x => !ed ops j2 x.1).all (fun x => ldOK P s2.hp x.2) then
              match evAny P call ops k (j1 :: done) (lds.filter fun x => !ed ops j1 x.1) s1, evAny P call ops k (j2 :: done) (lds.filter fun x => !ed ops j2 x.1) s2 with
              | some sA, some _ => some sA
              | _, _ => none
            else none
          | _, _, _, _, _, _ => none
        | _, _ => none
      | _ => none
end Go.Proofs.YthponidjednfbaaGreatDoor.Ev
