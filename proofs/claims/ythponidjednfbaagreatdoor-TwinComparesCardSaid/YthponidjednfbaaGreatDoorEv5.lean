/-
  The evaluator: maps; whatever acts on memory without a call.
-/
import Derived.Test.YthponidjednfbaaGreatDoorEv4
import Derived.Laws.IdiomStrings
import Derived.Laws.BytesString
namespace Go.Proofs.YthponidjednfbaaGreatDoor.Ev
open RowKit

def fnd (d : TypeDesc) (k : Value) : List (Value × Value) → Option (Option Value)
  | [] => some none
  | (a, v) :: l => match Instr.sameNow d k a with
    | some true => some (some v)
    | some false => fnd d k l
    | none => none
theorem fnd_findNow {d : TypeDesc} {k : Value} : ∀ (es : List MapEntry) (i : Nat) {x : Option Value}, fnd d k (es.map fun e => (e.key, e.val)) = some x →
    match x with
    | none => Instr.findNow d k es i = some none
    | some v => ∃ j, Instr.findNow d k es i = some (some (j, v))
  | [], i, x, h => by simp only [List.map_nil, fnd, Option.some.injEq] at h; subst h; rfl
  | e :: es, i, x, h => by
    simp only [List.map_cons, fnd] at h
    cases hs : Instr.sameNow d k e.key with
    | none => rw [hs] at h; cases h
    | some b =>
      rw [hs] at h
      cases b with
      | true => cases h; exact ⟨i, by simp [Instr.findNow, hs]⟩
      | false =>
        have := fnd_findNow es (i + 1) h
        cases x with
        | none => simp only at this ⊢; simp [Instr.findNow, hs, this]
        | some v => obtain ⟨j, hj⟩ := this; exact ⟨j, by simp [Instr.findNow, hs, hj]⟩
theorem fnd_mem {d : TypeDesc} {k v : Value} : ∀ (es : List MapEntry), fnd d k (es.map fun e => (e.key, e.val)) = some (some v) → ∃ e ∈ es, e.val = v
  | [], h => by simp [fnd] at h
  | e :: es, h => by
    simp only [List.map_cons, fnd] at h
    cases hs : Instr.sameNow d k e.key with
    | none => rw [hs] at h; cases h
    | some b =>
      rw [hs] at h
      cases b with
      | true => cases h; exact ⟨e, by simp, rfl⟩
      | false => obtain ⟨e', h1, h2⟩ := fnd_mem es h; exact ⟨e', by simp [h1], h2⟩
def plainKey : TypeDesc → Bool | .string | .int _ => true | _ => false
theorem bytes_self (s : ByteArray) : (s == s) = true := by
  cases s with | mk d => show (d == d) = true; simp
theorem fnd_new {d : TypeDesc} {k : Value} (hd : plainKey d = true) : ∀ (es : List MapEntry), fnd d k (es.map fun e => (e.key, e.val)) = some none → ∀ e ∈ es, e.key ≠ k
  | [], _, _, h => by simp at h
  | e :: es, h, x, hx => by
    simp only [List.map_cons, fnd] at h
    cases hs : Instr.sameNow d k e.key with
    | none => rw [hs] at h; cases h
    | some b =>
      rw [hs] at h
      cases b with
      | true => cases h
      | false =>
        rcases List.mem_cons.1 hx with rfl | hx
        · intro e1
          rw [e1] at hs
          cases d <;> simp [plainKey] at hd <;> cases k <;> simp [Instr.sameNow, bytes_self] at hs
        · exact fnd_new hd es h x hx
theorem checkKey_plain {P : Program} {t : TypeId} {d : TypeDesc} (h : P.underlying t = some d) (hp : plainKey d = true) (e : Bool) (v : Value) (w : World) : (Instr.checkKey e 10000 t v).run P w = .ok () w := by
  show (Instr.checkKey e (9999 + 1) t v).run P w = .ok () w
  cases d <;> first | (simp [plainKey] at hp; done) | (unfold Instr.checkKey; simp only [Sem.run_bind, run_underlying h, Result.andThen_ok]; rfl)
/-- what was done: a value, or nothing -/
def Ran (P : Program) (ρ : Operand → Value) (o : Oper) (w : World) (v : Value) (w' : World) : Prop :=
  (execOp ρ o).run P w = .ok (.value v) w' ∨ ((execOp ρ o).run P w = .ok .skip w' ∧ v = undef)
def mapQ (P : Program) (ev : Val) (hp : T Blk) (nx : Nat) (o : Oper) : Option (Value × T Blk × Nat) :=
  match o.op with
  | .makeMap t r => match P.underlying t, evO ev r with
    | some (.map _ _), some none => some (.map (some nx), hp.set (some (.map [])) nx, nx + 1)
    | some (.map _ _), some (some (.int _ _)) => some (.map (some nx), hp.set (some (.map [])) nx, nx + 1)
    | _, _ => none
  | .lookup t m k ok => match ev m, ev k, P.underlying t with
    | some (.map (some n)), some u, some (.map kt et) => match hp.get n, P.underlying kt with
      | some (.map es), some d => bif plainKey d && flat u && es.all (fun e => flat e.1 && flat e.2) then
          match fnd d u es with
          | some (some v) => some (bif ok then .tuple ⟨[v, .bool true]⟩ else v, hp, nx)
          | some none => match P.info? et with
            | some i => match i.zero with
              | some z => bif flat z then some (bif ok then .tuple ⟨[z, .bool false]⟩ else z, hp, nx) else none
              | none => none
            | none => none
          | none => none
        else none
      | _, _ => none
    | _, _, _ => none
  | .mapUpdate t m k x => match ev m, ev k, ev x, P.underlying t with
    | some (.map (some n)), some u, some v, some (.map kt _) => match hp.get n, P.underlying kt with
      | some (.map es), some d => bif plainKey d && flat u && flat v then
          match fnd d u es with
          | some none => some (undef, hp.set (some (.map (es ++ [(u, v)]))) n, nx)
          | _ => none
        else none
      | _, _ => none
    | _, _, _, _ => none
  | _ => none
theorem VR.map_inv {β : Where} {n : Nat} {v' : Value} (h : VR β (.map (some n)) v') : ∃ r, β n = some r ∧ v' = .map (some r.1) := by
  cases h with
  | atom h => simp [Ev.atom] at h
  | map hr => exact ⟨_, hr, rfl⟩
theorem undef_VR (β : Where) : VR β undef undef := .tuple rfl (fun i v v' h => by simp at h)
theorem Inv.madeMap {P : Program} {β : Where} {hp : T Blk} {nx N0 : Nat} {w : World} (I : Inv P β hp nx N0 w) :
    Stp P N0 β hp nx w (β.upd nx (w.heap.size, 0)) (hp.set (some (.map [])) nx) (nx + 1) (w.alloc (.map #[] 0)) := by
  have hnone : β nx = none := by
    cases h : β nx with
    | none => rfl
    | some r => exact absurd (I.bnd nx r h).1 (by omega)
  have hx : Ext β (β.upd nx (w.heap.size, 0)) := fun n r h => by
    unfold Where.upd
    rw [if_neg (fun e => by rw [e, hnone] at h; cases h)]
    exact h
  have hup : ∀ n r, β.upd nx (w.heap.size, 0) n = some r → (n = nx ∧ r = (w.heap.size, 0)) ∨ (n ≠ nx ∧ β n = some r) := fun n r h => by
    unfold Where.upd at h
    by_cases e : n = nx
    · rw [if_pos e] at h; cases h; exact .inl ⟨e, rfl⟩
    · rw [if_neg e] at h; exact .inr ⟨e, h⟩
  refine ⟨hx, by omega, ?_, (Below.refl _ _).alloc I.base _, fun n hn hβ => ?_, Frm.new (fun k q hk hne hh => by rwa [T.get_set, if_neg hne] at hh) (.inl (Nat.le_refl _)) (fun g hg _ => Below.heap_alloc w _ _ hg)⟩
  · refine I.upd (I.cln_new _) hx (by omega) (by simp) (fun n r h => ?_) (fun n m r q h1 h2 h3 h4 h5 => ?_) fun n r b h1 h2 => ?_
    · rcases hup n r h with ⟨rfl, rfl⟩ | ⟨_, h⟩
      · exact .inr ⟨by omega, I.base, by simp⟩
      · exact .inl h
    · rw [T.get_set] at h3 h4
      rcases hup n r h1 with ⟨e1, e2⟩ | ⟨n1, g1⟩ <;> rcases hup m q h2 with ⟨e3, e4⟩ | ⟨n2, g2⟩
      · rw [e1, e3]
      · have := (I.bnd m q g2).2.2; rw [e2] at h5; simp at h5; omega
      · have := (I.bnd n r g1).2.2; rw [e4] at h5; simp at h5; omega
      · rw [if_neg n1] at h3; rw [if_neg n2] at h4
        exact I.inj n m r q g1 g2 h3 h4 h5
    · rw [T.get_set] at h2
      rcases hup n r h1 with ⟨rfl, rfl⟩ | ⟨n1, h1⟩
      · rw [if_pos rfl] at h2; cases h2
        exact .inr ⟨#[], 0, by show (w.heap.push _)[w.heap.size]? = _; simp, rfl, MapKept.stamped_empty 0⟩
      · rw [if_neg n1] at h2
        exact .inl ⟨h1, h2, Below.heap_alloc w _ _ (I.bnd n r h1).2.2⟩
  · have hne : n ≠ nx := by omega
    exact ⟨by unfold Where.upd; rw [if_neg hne]; exact hβ, by rw [T.get_set, if_neg hne]⟩
theorem mapQ_sound {P : Program} {β : Where} {hp : T Blk} {nx N0 : Nat} {w : World} (I : Inv P β hp nx N0 w) {ev : Val} {ρ : Operand → Value} {o : Oper} {v : Value} {hp' : T Blk} {nx' : Nat}
    (h : mapQ P ev hp nx o = some (v, hp', nx')) (hO : OR β ev ρ o.op.operands) :
    ∃ β' v' w', Ran P ρ o w v' w' ∧ Stp P N0 β hp nx w β' hp' nx' w' ∧ VR β' v v' := by
  obtain ⟨dst, op, type, pos, after, guard⟩ := o
  unfold OR at hO
  cases op <;> simp only [mapQ] at h <;> try (cases h; done)
  case makeMap t r =>
    have hβ : (β.upd nx (w.heap.size, 0)) nx = some (w.heap.size, 0) := by unfold Where.upd; rw [if_pos rfl]
    split at h
    · next k e h1 h2 =>
      simp only [Option.some.injEq, Prod.mk.injEq] at h
      obtain ⟨rfl, rfl, rfl⟩ := h
      cases r with
      | some x =>
        unfold evO at h2
        simp only at h2
        cases hx : ev x with
        | none => rw [hx] at h2; cases h2
        | some u => rw [hx] at h2; cases h2
      | none => exact ⟨_, .map (some w.heap.size), _, .inl rfl, I.madeMap, .map hβ⟩
    · next k e i n h1 h2 =>
      simp only [Option.some.injEq, Prod.mk.injEq] at h
      obtain ⟨rfl, rfl, rfl⟩ := h
      cases r with
      | none => cases h2
      | some x =>
        unfold evO at h2
        simp only at h2
        cases hx : ev x with
        | none => rw [hx] at h2; cases h2
        | some u =>
          rw [hx] at h2
          cases h2
          have e1 := (hO x (by simp [Op.operands]) _ hx).int_inv
          refine ⟨_, .map (some w.heap.size), _, .inl ?_, I.madeMap, .map hβ⟩
          simp only [execOp, Instr.makeMap, Option.map_some, e1, Sem.run_bind, run_underlying h1, Result.andThen_ok, asInt, asIntOf, Sem.run_pure]
          rfl
    · cases h
  case lookup t m k ok =>
    split at h
    next n u kt et h1 h2 h3 =>
      split at h
      next es d h4 h5 =>
        cases hb : (plainKey d && flat u && es.all (fun e => flat e.1 && flat e.2)) with
        | false => rw [hb] at h; cases h
        | true =>
          rw [hb, cond_true] at h
          simp only [Bool.and_eq_true, List.all_eq_true] at hb
          obtain ⟨r, hr, em⟩ := (hO m (by simp [Op.operands]) _ h1).map_inv
          have ek := flat_same 5 hb.1.2 (hO k (by simp [Op.operands]) _ h2)
          obtain ⟨es', c, hw, hes, hsp⟩ := I.hr n r _ hr h4
          have hget : (getObj r.1).run P w = .ok (.map es' c) w := by simp [getObj, Sem.run, hw]
          rw [← hes] at h hb
          have hfl : ∀ v, (∃ e ∈ es'.toList, e.val = v) → VR β v v := fun v ⟨e, he, hv⟩ => by
            have := hb.2 (e.key, e.val) (List.mem_map.2 ⟨e, he, rfl⟩)
            subst hv
            exact flat_refl 5 this.2
          split at h
          · next v' hf =>
            simp only [Option.some.injEq, Prod.mk.injEq] at h
            obtain ⟨rfl, rfl, rfl⟩ := h
            obtain ⟨j, hj⟩ := fnd_findNow es'.toList 0 hf
            have hvr : VR β v' v' := hfl v' (fnd_mem es'.toList hf)
            refine ⟨β, bif ok then .tuple ⟨[v', .bool true]⟩ else v', w, .inl ?_, Stp.refl I, ?_⟩
            · simp only [execOp, em, ek, Instr.lookup, Sem.run_bind, run_underlying h3, Result.andThen_ok, hget, Sem.run_pure, checkKey_plain h5 hb.1.1, Instr.findKey, run_underlying h5, hj]
              cases ok <;> rfl
            · cases ok
              · exact hvr
              · exact VL.tuple (VL.cons hvr (VL.cons (.atom rfl) VL.nil))
          · next hf =>
            split at h
            · next i hi =>
              split at h
              · next z hz =>
                cases hfz : flat z with
                | false => rw [hfz] at h; cases h
                | true =>
                  rw [hfz, cond_true] at h
                  simp only [Option.some.injEq, Prod.mk.injEq] at h
                  obtain ⟨rfl, rfl, rfl⟩ := h
                  have hj := fnd_findNow es'.toList 0 hf
                  simp only at hj
                  have hzr : (zeroValue et).run P w = .ok z w := by unfold zeroValue; simp only [Sem.run_bind, run_typeInfo w hi, Result.andThen_ok, hz, Sem.run_pure]
                  have hvr : VR β z z := flat_refl 5 hfz
                  refine ⟨β, bif ok then .tuple ⟨[z, .bool false]⟩ else z, w, .inl ?_, Stp.refl I, ?_⟩
                  · simp only [execOp, em, ek, Instr.lookup, Sem.run_bind, run_underlying h3, Result.andThen_ok, hget, Sem.run_pure, checkKey_plain h5 hb.1.1, Instr.findKey, run_underlying h5, hj, hzr]
                    cases ok <;> rfl
                  · cases ok
                    · exact hvr
                    · exact VL.tuple (VL.cons hvr (VL.cons (.atom rfl) VL.nil))
              · cases h
            · cases h
          · cases h
      next => cases h
    next => cases h
  case mapUpdate t m k x =>
    split at h
    next n u v2 kt et h1 h2 h2' h3 =>
      split at h
      next es d h4 h5 =>
        cases hb : (plainKey d && flat u && flat v2) with
        | false => rw [hb] at h; cases h
        | true =>
          rw [hb, cond_true] at h
          simp only [Bool.and_eq_true] at hb
          obtain ⟨r, hr, em⟩ := (hO m (by simp [Op.operands]) _ h1).map_inv
          have ek := flat_same 5 hb.1.2 (hO k (by simp [Op.operands]) _ h2)
          have ex := flat_same 5 hb.2 (hO x (by simp [Op.operands]) _ h2')
          obtain ⟨es', c, hw, hes, hsp⟩ := I.hr n r _ hr h4
          have hget : (getObj r.1).run P w = .ok (.map es' c) w := by simp [getObj, Sem.run, hw]
          rw [← hes] at h
          split at h
          · next hf =>
            simp only [Option.some.injEq, Prod.mk.injEq] at h
            obtain ⟨rfl, rfl, rfl⟩ := h
            have hj := fnd_findNow es'.toList 0 hf
            simp only at hj
            have hlt : r.1 < w.heap.size := (I.bnd n r hr).2.2
            have hset : ∀ ob, (setObj r.1 ob).run P w = .ok () { w with heap := w.heap.setIfInBounds r.1 ob } := fun ob => by simp [setObj, Sem.run, hw]
            refine ⟨β, undef, { w with heap := w.heap.setIfInBounds r.1 (.map (es'.push { key := u, val := v2, born := c }) (c + 1)) }, .inr ⟨?_, rfl⟩, ⟨Ext.refl _, Nat.le_refl _, ?_, ⟨rfl, rfl, rfl, by simp, fun j hj' => ?_⟩, fun n' _ hβ => ⟨hβ, ?_⟩, Frm.at (fun k hk => by
              rw [T.get_set] at hk; split at hk
              · next e => rw [e, h4]; simp
              · exact hk) (fun g _ hn => by
              show (w.heap.setIfInBounds r.1 _)[g]? = _
              rw [Array.getElem?_setIfInBounds_ne (fun e => hn ⟨n, r, hr, by rw [h4]; simp, by first | exact e | exact e.symm⟩)])⟩, undef_VR _⟩
            · simp only [execOp, em, ek, ex, Instr.mapUpdate, Sem.run_bind, run_underlying h3, Result.andThen_ok, hget, Sem.run_pure, checkKey_plain h5 hb.1.1, Instr.findKey, run_underlying h5, hj, hset]
            · refine I.upd (I.cln_set hr _) (Ext.refl _) (Nat.le_refl _) (by simp) (fun n r h => .inl h) (fun n' m' r' q' ha hb' hc hd he => I.inj n' m' r' q' ha hb' ?_ ?_ he) fun n' r' b' hβ hg => ?_
              · rw [T.get_set] at hc; split at hc
                · next e => rw [e, h4]; simp
                · exact hc
              · rw [T.get_set] at hd; split at hd
                · next e => rw [e, h4]; simp
                · exact hd
              · rw [T.get_set] at hg
                by_cases e : n' = n
                · subst e
                  rw [if_pos rfl] at hg
                  cases hg
                  rw [hr] at hβ
                  cases hβ
                  exact .inr ⟨es'.push { key := u, val := v2, born := c }, c + 1, by show (w.heap.setIfInBounds r.1 _)[r.1]? = _; simp [hlt], by simp [hes], MapKept.stamped_push hsp (fnd_new hb.1.1 es'.toList hf)⟩
                · rw [if_neg e] at hg
                  refine .inl ⟨hβ, hg, ?_⟩
                  have : r'.1 ≠ r.1 := fun he => e (I.inj n' n r' r hβ hr (by rw [hg]; simp) (by rw [h4]; simp) he)
                  show (w.heap.setIfInBounds r.1 _)[r'.1]? = _
                  rw [Array.getElem?_setIfInBounds_ne (Ne.symm this)]
            · have : r.1 ≠ j := by have := (I.bnd n r hr).2.1; omega
              show (w.heap.setIfInBounds r.1 _)[j]? = _
              rw [Array.getElem?_setIfInBounds_ne this]
            · rw [T.get_set, if_neg]
              intro e; rw [e, hr] at hβ; cases hβ
          · cases h
      next => cases h
    next => cases h
/-- a block that is made, of whatever kind -/
theorem Inv.newBlk {P : Program} {β : Where} {hp : T Blk} {nx N0 : Nat} {w w1 : World} (I : Inv P β hp nx N0 w) (h1 : w1.heap = w.heap) (h2 : Below N0 w w1) {ob : Obj} {b : Blk} {hid : Nat} (hb : ∀ γ, Ext β γ → BR P γ b (w.heap.size, hid) (w1.alloc ob)) :
    Stp P N0 β hp nx w (β.upd nx (w.heap.size, hid)) (hp.set (some b) nx) (nx + 1) (w1.alloc ob) := by
  have hnone : β nx = none := by
    cases h : β nx with
    | none => rfl
    | some r => exact absurd (I.bnd nx r h).1 (by omega)
  have hx : Ext β (β.upd nx (w.heap.size, hid)) := fun n r h => by
    unfold Where.upd
    rw [if_neg (fun e => by rw [e, hnone] at h; cases h)]
    exact h
  have hup : ∀ n r, β.upd nx (w.heap.size, hid) n = some r → (n = nx ∧ r = (w.heap.size, hid)) ∨ (n ≠ nx ∧ β n = some r) := fun n r h => by
    unfold Where.upd at h
    by_cases e : n = nx
    · rw [if_pos e] at h; cases h; exact .inl ⟨e, rfl⟩
    · rw [if_neg e] at h; exact .inr ⟨e, h⟩
  have hsz : (w1.alloc ob).heap.size = w.heap.size + 1 := by rw [← h1]; simp
  refine ⟨hx, by omega, ?_, h2.alloc (by rw [h1]; exact I.base) _, fun n hn hβ => ?_, Frm.new (fun k q hk hne hh => by rwa [T.get_set, if_neg hne] at hh) (.inl (Nat.le_refl _)) (fun g hg _ => by rw [Below.heap_alloc w1 _ _ (by rw [h1]; exact hg), h1])⟩
  · refine I.upd (I.cln_new _) hx (by omega) (by omega) (fun n r h => ?_) (fun n m r q h1 h2 h3 h4 h5 => ?_) fun n r b' g1 g2 => ?_
    · rcases hup n r h with ⟨rfl, rfl⟩ | ⟨_, h⟩
      · exact .inr ⟨by omega, I.base, by simp only; omega⟩
      · exact .inl h
    · rw [T.get_set] at h3 h4
      rcases hup n r h1 with ⟨e1, e2⟩ | ⟨n1, g1⟩ <;> rcases hup m q h2 with ⟨e3, e4⟩ | ⟨n2, g2⟩
      · rw [e1, e3]
      · have := (I.bnd m q g2).2.2; rw [e2] at h5; simp at h5; omega
      · have := (I.bnd n r g1).2.2; rw [e4] at h5; simp at h5; omega
      · rw [if_neg n1] at h3; rw [if_neg n2] at h4
        exact I.inj n m r q g1 g2 h3 h4 h5
    · rw [T.get_set] at g2
      rcases hup n r g1 with ⟨rfl, rfl⟩ | ⟨n1, g1⟩
      · rw [if_pos rfl] at g2; cases g2
        exact .inr (hb _ hx)
      · rw [if_neg n1] at g2
        have := (I.bnd n r g1).2.2
        exact .inl ⟨g1, g2, by rw [Below.heap_alloc w1 _ _ (by rw [h1]; exact this), h1]⟩
  · have hne : n ≠ nx := by omega
    exact ⟨by unfold Where.upd; rw [if_neg hne]; exact hβ, by rw [T.get_set, if_neg hne]⟩
/-- the bytes of a string, as a row -/
def intsOf : List Value → Option (List Int)
  | [] => some []
  | .int .u8 b :: l => match intsOf l with
    | some r => some (b :: r)
    | none => none
  | _ => none
theorem intsOf_map : ∀ {l : List Value} {r : List Int}, intsOf l = some r → l = r.map (Value.int .u8)
  | [], r, h => by cases h; rfl
  | v :: l, r, h => by
    unfold intsOf at h
    split at h
    · next e => cases e
    · next b l' e =>
      cases e
      split at h
      · next r' hr => cases h; rw [intsOf_map hr]; rfl
      · cases h
    · cases h
def convQ (P : Program) (ev : Val) (hp : T Blk) (nx : Nat) (src dst : TypeId) (x : Operand) : Option (Value × T Blk × Nat) :=
  match ev x, P.underlying src, P.underlying dst with
  | some (.string s), some .string, some (.slice e) => match P.underlying e with
    | some (.int .u8) => some (.slice (some ⟨nx, 0, none⟩) s.data.toList.length s.data.toList.length, hp.set (some (.ro (setN .leaf 0 (s.data.toList.map fun b => .int .u8 b.toNat)) s.data.toList.length)) nx, nx + 1)
    | _ => none
  | some (.slice (some ⟨b, o, none⟩) len _), some (.slice e), some .string => match P.underlying e with
    | some (.int .u8) => match rowOf hp b o len with
      | some l => match intsOf l with
        | some ns => some (.string (ns.foldl (fun r n => r.push (UInt8.ofNat n.toNat)) ByteArray.empty), hp, nx)
        | none => none
      | none => none
    | _ => none
  | _, _, _ => none
theorem VR.str_inv {β : Where} {s : ByteArray} {v' : Value} (h : VR β (.string s) v') : v' = .string s := by cases h; rfl
theorem convQ_sound {P : Program} {β : Where} {hp : T Blk} {nx N0 : Nat} {w : World} (I : Inv P β hp nx N0 w) {ev : Val} {ρ : Operand → Value} {o : Oper} {src dst : TypeId} {x : Operand} (ho : o.op = .convert src dst x) {v : Value} {hp' : T Blk} {nx' : Nat}
    (h : convQ P ev hp nx src dst x = some (v, hp', nx')) (hO : OR β ev ρ o.op.operands) :
    ∃ β' v' w', (execOp ρ o).run P w = .ok (.value v') w' ∧ Stp P N0 β hp nx w β' hp' nx' w' ∧ VR β' v v' := by
  unfold convQ at h
  split at h
  next s e h1 h2 h3 =>
    split at h
    next h4 =>
      simp only [Option.some.injEq, Prod.mk.injEq] at h
      obtain ⟨rfl, rfl, rfl⟩ := h
      have e1 := (hO x (by rw [ho]; simp [Op.operands]) _ h1).str_inv
      have hs : s.size = s.data.toList.length := by simp
      have hcap : s.size ≤ grownCap w s.size 0 e := by unfold grownCap Question.cut; simp only; omega
      have hrun := run_bytes_of_string (P := P) w src dst e s h2 h3 h4
      have hβ : (β.upd nx (w.heap.size, grownCap w s.size 0 e - s.size)) nx = some (w.heap.size, grownCap w s.size 0 e - s.size) := by unfold Where.upd; rw [if_pos rfl]
      refine ⟨_, .slice (some ⟨w.heap.size, 0, none⟩) s.size (grownCap w s.size 0 e), _, ?_, I.newBlk (w1 := w.drew) (hid := grownCap w s.size 0 e - s.size) (ob := .cells (bytesRow s (grownCap w s.size 0 e)) e ((bytesRow s (grownCap w s.size 0 e)).size, (bytesRow s (grownCap w s.size 0 e)).size + 1)) rfl (Below.refl _ _).drew (fun γ _ => ⟨bytesRow s (grownCap w s.size 0 e), e, ((bytesRow s (grownCap w s.size 0 e)).size, (bytesRow s (grownCap w s.size 0 e)).size + 1), ?_, ?_, fun i hi => ?_⟩), ?_⟩
      · unfold execOp
        simp only [ho, e1, Sem.run_bind, hrun, Result.andThen_ok, Sem.run_pure]
      · show (w.heap.push _)[w.heap.size]? = _
        simp
      · simp [bytesRow]
      · have hi' : i < s.data.size := by simpa using hi
        refine ⟨.int .u8 (s.data[i]).toNat, .int .u8 (s.data[i]).toNat, ?_, ?_, .atom rfl⟩
        · rw [setN_get, if_pos ⟨by omega, by simpa using hi⟩]
          simp
          exact ⟨_, Array.getElem?_eq_getElem hi', rfl⟩
        · unfold bytesRow
          rw [Array.getElem?_append_left (by simpa using hi')]
          simp
          exact ⟨_, Array.getElem?_eq_getElem hi', rfl⟩
      · have := VR.sl (n := nx) (o := 0) (len := s.size) (c := s.size) hβ
        rw [show s.size + (w.heap.size, grownCap w s.size 0 e - s.size).2 = grownCap w s.size 0 e by simp only; omega] at this
        rw [← hs]; exact this
    next => cases h
  next b o len c e h1 h2 h3 =>
    split at h
    next h4 =>
      split at h
      next l hl =>
        split at h
        next ns hns =>
          simp only [Option.some.injEq, Prod.mk.injEq] at h
          obtain ⟨rfl, rfl, rfl⟩ := h
          obtain ⟨r, hr, e1⟩ := (hO x (by rw [ho]; simp [Op.operands]) _ h1).sl_inv
          obtain ⟨l', k1, k2, k3⟩ := rowOf_sound I hl hr
          have hll : l' = ns.map (Value.int .u8) := by
            have hm := intsOf_map hns
            apply List.ext_getElem?
            intro j
            rw [← hm]
            rcases Nat.lt_or_ge j l'.length with hj | hj
            · have hj' : j < l.length := by rw [k1.1]; exact hj
              have q := k1.2 j _ _ (List.getElem?_eq_getElem hj') (List.getElem?_eq_getElem hj)
              have hat : l[j] ∈ ns.map (Value.int .u8) := by rw [← hm]; exact List.getElem_mem hj'
              obtain ⟨n0, _, e0⟩ := List.mem_map.1 hat
              rw [← e0] at q
              rw [List.getElem?_eq_getElem hj, List.getElem?_eq_getElem hj', q.int_inv, e0]
            · rw [List.getElem?_eq_none hj, List.getElem?_eq_none (by rw [k1.1]; exact hj)]
          have hload : (loadCells ⟨r.1, o, none⟩ len).run P w = .ok (ns.map (Value.int .u8)).toArray w := by
            have := run_firstCells_some (P := P) w 1 len ⟨r.1, o, none⟩ len 0 l' (by omega) k3
            rw [hll] at this
            simpa [Builtin.firstCells] using this
          have hconv := run_bytesToString (P := P) w ⟨r.1, o, none⟩ len (c + r.2) ns hload
          refine ⟨β, _, w, ?_, Stp.refl I, .atom rfl⟩
          unfold execOp
          simp only [ho, e1, Sem.run_bind]
          simp [convert, run_underlying h2, run_underlying h3, run_underlying h4, hconv]
        next => cases h
      next => cases h
    next => cases h
  next => cases h
end Go.Proofs.YthponidjednfbaaGreatDoor.Ev
