/-
  The evaluator: operations that only look.
-/
import Derived.Test.YthponidjednfbaaGreatDoorEv1
import Derived.Laws.Sem
import Derived.Laws.Cells
import Derived.Laws.Entries
import Derived.ChangeKeysEq
namespace Go.Proofs.YthponidjednfbaaGreatDoor.Ev

/-- blocks as they are known: a row's first cells; a map's entries -/
inductive Blk where
  | row (cs : T Value) (m : Nat) (ty : TypeId)
  | ro (cs : T Value) (m : Nat)
  | map (es : List (Value × Value))
/-- what may be read -/
def Blk.rd : Blk → Option (T Value × Nat)
  | .row cs m _ => some (cs, m)
  | .ro cs m => some (cs, m)
  | .map _ => none
def rdOf (hp : T Blk) (n : Nat) : Option (T Value × Nat) := match hp.get n with | some b => b.rd | none => none
/-- what operands are -/
abbrev Val := Operand → Option Value
/-- operands, and what they are in memory -/
def OR (β : Where) (ev : Val) (ρ : Operand → Value) (xs : Array Operand) : Prop := ∀ x ∈ xs, ∀ v, ev x = some v → VR β v (ρ x)
def runP (p : Program) {α : Type} : Sem α → Option α
  | .pure a => some a
  | .program k => runP p (k p)
  | .mark _ k => runP p k
  | _ => none
theorem runP_run {P : Program} {α : Type} : ∀ {x : Sem α} {a : α}, runP P x = some a → ∀ w, x.run P w = .ok a w := by
  intro x
  induction x with
  | pure b => intro a h w; simp only [runP, Option.some.injEq] at h; subst h; rfl
  | program k ih => intro a h w; exact ih P h w
  | mark m k ih => intro a h w; exact ih h w
  | _ => intro a h w; simp [runP] at h
def noSel : Op → Bool | .select _ _ => false | _ => true
def flatE (ev : Val) (x : Operand) : Bool := match ev x with | some v => flat v | none => false
def pureQ (P : Program) (ev : Val) (o : Oper) : Option Value :=
  bif noSel o.op && o.op.operands.toList.all (flatE ev) then
    match runP P (execOp (fun x => (ev x).getD undef) o) with
    | some (.value v) => bif flat v then some v else none
    | _ => none
  else none
theorem pureQ_sound {P : Program} {β : Where} {ev : Val} {ρ : Operand → Value} {o : Oper} {v : Value} (h : pureQ P ev o = some v) (hO : OR β ev ρ o.op.operands) (w : World) :
    ∃ v', (execOp ρ o).run P w = .ok (.value v') w ∧ VR β v v' := by
  unfold pureQ at h
  cases hc : (noSel o.op && o.op.operands.toList.all (flatE ev)) with
  | false => rw [hc] at h; cases h
  | true =>
    rw [hc, cond_true] at h
    simp only [Bool.and_eq_true, List.all_eq_true, Array.mem_toList_iff] at hc
    have he : execOp ρ o = execOp (fun x => (ev x).getD undef) o := execOp_congr o (fun cs b hs => by rw [hs] at hc; exact absurd hc.1 (by simp [noSel])) fun x hx => by
      have hf := hc.2 x hx
      unfold flatE at hf
      cases hv : ev x with
      | none => rw [hv] at hf; cases hf
      | some u => rw [hv] at hf; exact flat_same 5 hf (hO x hx u hv)
    cases hr : runP P (execOp (fun x => (ev x).getD undef) o) with
    | none => rw [hr] at h; cases h
    | some n =>
      rw [hr] at h
      cases n with
      | value u =>
        simp only at h
        cases hf : flat u with
        | false => rw [hf] at h; cases h
        | true =>
          rw [hf] at h
          cases h
          exact ⟨_, by rw [he]; exact runP_run hr w, flat_refl 5 hf⟩
      | _ => cases h
def isAgg (P : Program) (t : TypeId) : Option Bool :=
  match P.underlying t with
  | some (.struct _) | some (.array _ _) => some true
  | some _ => some false
  | none => none
def sizeOf (P : Program) (t : TypeId) : Option Nat := match P.info? t with | some i => some i.size | none => none
theorem run_isAgg {P : Program} {t : TypeId} {b : Bool} (h : isAgg P t = some b) (w : World) : (Go.isAgg t).run P w = .ok b w := by
  unfold isAgg at h
  unfold Go.isAgg
  cases hd : P.underlying t with
  | none => rw [hd] at h; cases h
  | some d =>
    rw [hd] at h
    rw [Sem.run_bind, run_underlying hd]
    cases d <;> (cases h; rfl)
theorem run_sizeOf {P : Program} {t : TypeId} {n : Nat} (h : sizeOf P t = some n) (w : World) : (Go.sizeOf t).run P w = .ok n w := by
  unfold sizeOf at h
  split at h
  · next i hi =>
    cases h
    unfold Go.sizeOf
    rw [Sem.run_bind, run_typeInfo w hi]
    rfl
  · cases h
/-- what is loaded -/
def loadAt (P : Program) (hp : T Blk) (t : TypeId) (n o : Nat) : Option Value :=
  match rdOf hp n with
  | some (cs, m) =>
    match isAgg P t, sizeOf P t with
    | some true, some k => bif Nat.ble (o + k) m then (match getN cs o k with | some l => some (.agg ⟨l⟩) | none => none) else none
    | some false, _ => bif Nat.ble (o + 1) m then cs.get o else none
    | _, _ => none
  | none => none
def evs (ev : Val) : List Operand → Option (List Value)
  | [] => some []
  | x :: l => match ev x, evs ev l with
    | some v, some r => some (v :: r)
    | _, _ => none
def bound (x : Option Value) (d top : Nat) : Option Nat :=
  match x with
  | none => some d
  | some (.int _ i) => bif decide (0 ≤ i) && decide (i ≤ (top : Int)) then some i.toNat else none
  | some _ => none
def evO (ev : Val) : Option Operand → Option (Option Value)
  | none => some none
  | some x => match ev x with | some v => some (some v) | none => none
def parts (ev : Val) : List (Nat × Operand) → Option (List (Nat × Value))
  | [] => some []
  | (i, x) :: l => match ev x, parts ev l with
    | some v, some r => some ((i, v) :: r)
    | _, _ => none
/-- cells filled with parts -/
def PL (β : Where) : List (Nat × Value) → List (Nat × Value) → Prop
  | [], [] => True
  | p :: l, p' :: l' => p.1 = p'.1 ∧ VR β p.2 p'.2 ∧ PL β l l'
  | _, _ => False
theorem VL.set {β : Where} {l l' : List Value} (h : VL β l l') {i : Nat} {v v' : Value} (hv : VR β v v') : VL β (l.set i v) (l'.set i v') :=
  ⟨by simp [h.1], fun j u u' hu hu' => by
    rw [List.getElem?_set] at hu hu'
    by_cases e : i = j
    · subst e
      rw [if_pos rfl] at hu hu'
      by_cases hi : i < l.length
      · rw [if_pos hi] at hu; rw [if_pos (h.1 ▸ hi)] at hu'
        cases hu; cases hu'; exact hv
      · rw [if_neg hi] at hu; cases hu
    · rw [if_neg e] at hu hu'; exact h.2 j u u' hu hu'⟩
theorem fold_VL {β : Where} {off : Nat} : ∀ {l l' : List Value}, VL β l l' → ∀ (k : Nat) {cs cs' : Array Value}, VL β cs.toList cs'.toList →
    VL β ((l.zipIdx k).foldl (fun (cs : Array Value) (x : Value × Nat) => cs.setIfInBounds (off + x.2) x.1) cs).toList ((l'.zipIdx k).foldl (fun (cs : Array Value) (x : Value × Nat) => cs.setIfInBounds (off + x.2) x.1) cs').toList
  | [], [], _, k, cs, cs', h => h
  | v :: l, v' :: l', hl, k, cs, cs', h => by
    simp only [List.zipIdx_cons, List.foldl_cons]
    refine fold_VL ⟨by have := hl.1; simpa using this, fun i u u' hu hu' => hl.2 (i + 1) u u' (by simpa using hu) (by simpa using hu')⟩ (k + 1) ?_
    rw [Array.toList_setIfInBounds, Array.toList_setIfInBounds]
    exact h.set (hl.2 0 v v' rfl rfl)
  | [], _ :: _, h, _, _, _, _ => by have := h.1; simp at this
  | _ :: _, [], h, _, _, _, _ => by have := h.1; simp at this
theorem fill_VL {β : Where} {place : Nat → Option (Nat × Nat)} : ∀ {l l' : List (Nat × Value)}, PL β l l' → ∀ {cs cs' out : Array Value}, VL β cs.toList cs'.toList → Instr.fill place cs l = some out →
    ∃ out', Instr.fill place cs' l' = some out' ∧ VL β out.toList out'.toList
  | [], [], _, cs, cs', out, h, hf => by cases hf; exact ⟨cs', rfl, h⟩
  | (i, v) :: l, (i', v') :: l', hp, cs, cs', out, h, hf => by
    obtain ⟨e, hv, hp⟩ := hp
    simp only at e hv
    subst e
    have hc := hv.cells
    have hcs : v'.cells.size = v.cells.size := by have := hc.1; simpa using this.symm
    have hs : cs'.size = cs.size := by have := h.1; simpa using this.symm
    rw [Instr.fill] at hf ⊢
    cases hpl : place i with
    | none => rw [hpl] at hf; cases hf
    | some p =>
      obtain ⟨off, size⟩ := p
      rw [hpl] at hf
      simp only at hf ⊢
      rw [hcs, hs]
      by_cases hif : (v.cells.size ≠ size || decide (off + v.cells.size > cs.size)) = true
      · rw [if_pos hif] at hf; cases hf
      · rw [if_neg hif] at hf ⊢
        refine fill_VL hp ?_ hf
        rw [← Array.foldl_toList, ← Array.foldl_toList, Array.toList_zipIdx, Array.toList_zipIdx]
        exact fold_VL hc 0 h
  | [], _ :: _, h, _, _, _, _, _ => h.elim
  | _ :: _, [], h, _, _, _, _, _ => h.elim
theorem parts_PL {β : Where} {ev : Val} {ρ : Operand → Value} : ∀ {ps : List (Nat × Operand)} {l : List (Nat × Value)}, parts ev ps = some l → (∀ p ∈ ps, ∀ v, ev p.2 = some v → VR β v (ρ p.2)) → PL β l (ps.map fun p => (p.1, ρ p.2))
  | [], l, h, _ => by cases h; trivial
  | (i, x) :: ps, l, h, hO => by
    rw [parts] at h
    split at h
    · next v r h1 h2 =>
      cases h
      exact ⟨rfl, hO (i, x) (by simp) v h1, parts_PL h2 fun p hp => hO p (by simp [hp])⟩
    · cases h
def zeroA (P : Program) (t : TypeId) : Option (List Value) :=
  match P.info? t with
  | some i => match i.zero with
    | some z => bif flat z && z.cells.toList.all flat then some z.cells.toList else none
    | none => none
  | none => none
theorem flat_VL {β : Where} : ∀ {l : List Value}, (l.all flat) = true → VL β l l
  | [], _ => VL.nil
  | v :: l, h => by simp only [List.all_cons, Bool.and_eq_true] at h; exact VL.cons (flat_refl 5 h.1) (flat_VL h.2)
theorem zeroA_run {P : Program} {t : TypeId} {l : List Value} (h : zeroA P t = some l) (β : Where) : ∃ z, (∀ w, (zeroValue t).run P w = .ok z w) ∧ z.cells.toList = l ∧ VL β l l ∧ ∃ i, P.info? t = some i ∧ i.zero = some z := by
  unfold zeroA at h
  cases hi : P.info? t with
  | none => rw [hi] at h; cases h
  | some i =>
    rw [hi] at h
    simp only at h
    cases hz : i.zero with
    | none => rw [hz] at h; cases h
    | some z =>
      rw [hz] at h
      simp only at h
      cases hf : (flat z && z.cells.toList.all flat) with
      | false => rw [hf] at h; cases h
      | true =>
        rw [hf] at h
        cases h
        simp only [Bool.and_eq_true] at hf
        exact ⟨z, fun w => by unfold zeroValue; simp only [Sem.run_bind, run_typeInfo w hi, Result.andThen_ok, hz, Sem.run_pure], rfl, flat_VL hf.2, i, rfl, hz⟩
/-- a struct or an array, of its parts -/
def buildQ (P : Program) (ev : Val) (t : TypeId) (ps : Array (Nat × Operand)) : Option Value :=
  match zeroA P t, parts ev ps.toList, P.underlying t with
  | some z, some l, some (.struct fields) => match runP P (fields.mapM fun f => do pure (f.offset, ← Go.sizeOf f.type)) with
    | some places => match Instr.fill (places[·]?) ⟨z⟩ l with
      | some c => some (.agg c)
      | none => none
    | none => none
  | some z, some l, some (.array _ e) => match sizeOf P e with
    | some k => match Instr.fill (fun i => some (i * k, k)) ⟨z⟩ l with
      | some c => some (.agg c)
      | none => none
    | none => none
  | _, _, _ => none
theorem buildQ_sound {P : Program} {β : Where} {ev : Val} {ρ : Operand → Value} {t : TypeId} {ps : Array (Nat × Operand)} {v : Value} (h : buildQ P ev t ps = some v) (hO : ∀ p ∈ ps.toList, ∀ v, ev p.2 = some v → VR β v (ρ p.2)) (w : World) :
    ∃ v', (Instr.build t (ps.map fun p => (p.1, ρ p.2))).run P w = .ok v' w ∧ VR β v v' := by
  unfold buildQ at h
  have hps : (ps.map fun p => (p.1, ρ p.2)).toList = ps.toList.map fun p => (p.1, ρ p.2) := by simp
  split at h
  · next z l fields h1 h2 h3 =>
    split at h
    · next places h4 =>
      split at h
      · next c h5 =>
        cases h
        obtain ⟨z', r1, r2, r3, _⟩ := zeroA_run h1 β
        obtain ⟨out', r4, r5⟩ := fill_VL (parts_PL h2 hO) (cs' := z'.cells) (by rw [r2]; exact r3) h5
        refine ⟨.agg out', ?_, by obtain ⟨c⟩ := c; obtain ⟨out'⟩ := out'; exact r5.agg⟩
        unfold Instr.build
        simp only [Sem.run_bind, r1, Result.andThen_ok, run_underlying h3, hps, runP_run h4, r4, Sem.run_pure]
      · cases h
    · cases h
  · next z l n e h1 h2 h3 =>
    split at h
    · next k h4 =>
      split at h
      · next c h5 =>
        cases h
        obtain ⟨z', r1, r2, r3, _⟩ := zeroA_run h1 β
        obtain ⟨out', r4, r5⟩ := fill_VL (parts_PL h2 hO) (cs' := z'.cells) (by rw [r2]; exact r3) h5
        refine ⟨.agg out', ?_, by obtain ⟨c⟩ := c; obtain ⟨out'⟩ := out'; exact r5.agg⟩
        unfold Instr.build
        simp only [Sem.run_bind, r1, Result.andThen_ok, run_underlying h3, hps, run_sizeOf h4, r4, Sem.run_pure]
      · cases h
    · cases h
  · cases h
/-- a slice of a slice -/
def sliceQ (P : Program) (ev : Val) (t : TypeId) (x : Operand) (lo hi mx : Option Operand) : Option Value :=
  match ev x, evO ev lo, evO ev hi, mx, P.underlying t with
  | some (.slice (some ⟨n, o, none⟩) len c), some l, some h, none, some (.slice e) => match bound h len c, sizeOf P e with
    | some h, some k => match bound l 0 h with
      | some l => bif Nat.beq l 0 || Nat.blt l c then some (.slice (some ⟨n, o + l * k, none⟩) (h - l) (c - l)) else none
      | none => none
    | _, _ => none
  | _, _, _, _, _ => none
def nilQ (b : Bool) : Value → Value → TypeDesc → Option Value
  | .pointer (some _), .pointer none, .pointer _ => some (.bool b)
  | .slice (some _) _ _, .slice none _ _, .slice _ => some (.bool b)
  | _, _, _ => none
def lenQ (P : Program) (ev : Val) (c : Call) : Option Value :=
  match c.callee, c.args.toList, c.argTypes[0]? with
  | .builtin .len, [x], some t => match ev x, P.underlying t with
    | some (.slice _ n _), some (.slice _) => some (.int .i64 n)
    | _, _ => none
  | .builtin .copy, [d, s], some t => match ev d, ev s, P.underlying t with
    | some (.slice _ n _), some (.slice _ m _), some (.slice e) => match sizeOf P e with
      | some _ => bif Nat.beq n 0 || Nat.beq m 0 then some (.int .i64 0) else none
      | none => none
    | _, _, _ => none
  | _, _, _ => none
/-- operations that look at nothing but their operands -/
def evS (P : Program) (ev : Val) (o : Oper) : Option Value :=
  match o.op with
  | .move x | .assign x => ev x
  | .pick c a b => match ev c, ev a, ev b with
    | some (.bool t), some u, some v => some (bif t then u else v)
    | _, _, _ => none
  | .nilCheck x => match ev x with
    | some (.pointer (some a)) => some (.pointer (some a))
    | _ => none
  | .fieldAddr st x i => match ev x, P.underlying st with
    | some (.pointer (some ⟨n, o, none⟩)), some (.struct fs) => match fs[i]? with
      | some f => match sizeOf P f.type with
        | some (_ + 1) => some (.pointer (some ⟨n, o + f.offset, none⟩))
        | _ => none
      | none => none
    | _, _ => none
  | .indexAddr t x ix => match ev x, ev ix, P.underlying t with
    | some (.pointer (some ⟨n, o, none⟩)), some (.int _ i), some (.array len e) => match sizeOf P e with
      | some k => bif decide (0 ≤ i) && decide (i < (len : Int)) then some (.pointer (some ⟨n, o + i.toNat * k, none⟩)) else none
      | none => none
    | some (.slice (some ⟨n, o, none⟩) len _), some (.int _ i), some (.slice e) => match sizeOf P e with
      | some k => bif decide (0 ≤ i) && decide (i < (len : Int)) then some (.pointer (some ⟨n, o + i.toNat * k, none⟩)) else none
      | none => none
    | _, _, _ => none
  | .makeFunc fn a b => match evs ev a.toList, evs ev b.toList with
    | some x, some y => some (.func fn ⟨x⟩ ⟨y⟩)
    | _, _ => none
  | .extract x i => match ev x with
    | some (.tuple vs) => vs.toList[i]?
    | _ => none
  | .binOp op t x y _ => match ev x, ev y, P.underlying t with
    | some u, some v, some d => match op with
      | .eql => nilQ false u v d
      | .neq => nilQ true u v d
      | _ => none
    | _, _, _ => none
  | .call c => lenQ P ev c
  | .build t ps => buildQ P ev t ps
  | .slice t x lo hi mx => sliceQ P ev t x lo hi mx
  | _ => none
theorem add_off (b o k : Nat) : (⟨b, o, none⟩ : Addr).add k = ⟨b, o + k, none⟩ := by
  unfold Addr.add
  split
  · next h => subst h; rfl
  · rfl
theorem evs_sound {β : Where} {ev : Val} {ρ : Operand → Value} : ∀ {xs : List Operand} {l : List Value}, evs ev xs = some l → (∀ x ∈ xs, ∀ v, ev x = some v → VR β v (ρ x)) → VL β l (xs.map ρ)
  | [], l, h, _ => by cases h; exact VL.nil
  | x :: xs, l, h, hO => by
    rw [evs] at h
    split at h
    · next v r h1 h2 =>
      cases h
      exact VL.cons (hO x (by simp) v h1) (evs_sound h2 fun y hy => hO y (by simp [hy]))
    · cases h
theorem VR.ptr_inv {β : Where} {n o : Nat} {v' : Value} (h : VR β (.pointer (some ⟨n, o, none⟩)) v') : ∃ r, β n = some r ∧ v' = .pointer (some ⟨r.1, o, none⟩) := by
  cases h with
  | atom h => simp [Ev.atom] at h
  | ptr hr => exact ⟨_, hr, rfl⟩
theorem VR.sl_inv {β : Where} {n o len c : Nat} {v' : Value} (h : VR β (.slice (some ⟨n, o, none⟩) len c) v') : ∃ r, β n = some r ∧ v' = .slice (some ⟨r.1, o, none⟩) len (c + r.2) := by
  cases h with
  | atom h => simp [Ev.atom] at h
  | sl hr => exact ⟨_, hr, rfl⟩
theorem VR.int_inv {β : Where} {k : IntKind} {i : Int} {v' : Value} (h : VR β (.int k i) v') : v' = .int k i := by cases h; rfl
theorem VR.bool_inv {β : Where} {b : Bool} {v' : Value} (h : VR β (.bool b) v') : v' = .bool b := by cases h; rfl
theorem VR.ptr_some {β : Where} {a : Addr} {v' : Value} (h : VR β (.pointer (some a)) v') : ∃ a', v' = .pointer (some a') := by
  cases h with
  | atom h => simp [Ev.atom] at h
  | ptr hr => exact ⟨_, rfl⟩
theorem VR.ptr_none {β : Where} {v' : Value} (h : VR β (.pointer none) v') : v' = .pointer none := by cases h; rfl
theorem VR.sl_none {β : Where} {n c : Nat} {v' : Value} (h : VR β (.slice none n c) v') : v' = .slice none n c := by cases h; rfl
theorem VR.sl_some {β : Where} {a : Addr} {n c : Nat} {v' : Value} (h : VR β (.slice (some a) n c) v') : ∃ a' c', v' = .slice (some a') n c' := by
  cases h with
  | atom h => simp [Ev.atom] at h
  | sl hr => exact ⟨_, _, rfl⟩
theorem VR.sl_any {β : Where} {a : Option Addr} {n c : Nat} {v' : Value} (h : VR β (.slice a n c) v') : ∃ a' c', v' = .slice a' n c' := by
  cases h with
  | atom h => exact ⟨_, _, rfl⟩
  | sl hr => exact ⟨_, _, rfl⟩
theorem equalIn_ptr {P : Program} {t e : TypeId} (h : P.underlying t = some (.pointer e)) (a : Addr) (d : Nat) (w : World) : (Op.equalIn (d + 1) t (.pointer (some a)) (.pointer none)).run P w = .ok false w := by
  simp [Op.equalIn, run_underlying h]
theorem equalIn_sl {P : Program} {t e : TypeId} (h : P.underlying t = some (.slice e)) (a : Addr) (n c n' c' d : Nat) (w : World) : (Op.equalIn (d + 1) t (.slice (some a) n c) (.slice none n' c')).run P w = .ok false w := by
  simp [Op.equalIn, run_underlying h]
theorem nilQ_sound {P : Program} {β : Where} {b : Bool} {u v u' v' r : Value} {d : TypeDesc} {t : TypeId} (h : nilQ b u v d = some r) (k1 : VR β u u') (k2 : VR β v v') (h3 : P.underlying t = some d) (w : World) :
    r = .bool b ∧ ∀ x y, (do eqGuard .eql t x y u' v'; binOp .eql t u' v' : Sem Value).run P w = .ok (.bool false) w ∧ (do eqGuard .neq t x y u' v'; binOp .neq t u' v' : Sem Value).run P w = .ok (.bool true) w := by
  unfold nilQ at h
  split at h
  · next a e =>
    cases h
    obtain ⟨a', rfl⟩ := k1.ptr_some
    have e2 := k2.ptr_none
    subst e2
    have he : (Op.equal t (.pointer (some a')) (.pointer none)).run P w = .ok false w := equalIn_ptr h3 a' 9999 w
    refine ⟨rfl, fun x y => ⟨?_, ?_⟩⟩
    · simp only [eqGuard, binOp]; simp [he]
    · simp only [eqGuard, binOp]; simp [he]
  · next a n c n' c' e =>
    cases h
    obtain ⟨a', c'', rfl⟩ := k1.sl_some
    have e2 := k2.sl_none
    subst e2
    have he : (Op.equal t (.slice (some a') n c'') (.slice none n' c')).run P w = .ok false w := equalIn_sl h3 a' n c'' n' c' 9999 w
    refine ⟨rfl, fun x y => ⟨?_, ?_⟩⟩
    · simp only [eqGuard, binOp]; simp [he]
    · simp only [eqGuard, binOp]; simp [he]
  · cases h
def RO (β : Where) : Option Value → Option Value → Prop
  | none, none => True
  | some u, some u' => VR β u u'
  | _, _ => False
def BO (P : Program) (x : Option Value) (n d top top' : Nat) (code : BoundsCode) (w : World) : Option Value → Prop
  | none => x = none ∧ n = d
  | some u' => (Instr.sliceBound u' top' code).run P w = .ok n w ∧ n ≤ top
theorem bound_run {P : Program} {β : Where} {x : Option Value} {v' : Option Value} {d top top' n : Nat} {code : BoundsCode} (h : bound x d top = some n) (hx : RO β x v') (ht : top ≤ top') (w : World) : BO P x n d top top' code w v' := by
  unfold bound at h
  cases x with
  | none =>
    cases v' with
    | none => cases h; exact ⟨rfl, rfl⟩
    | some u' => exact hx.elim
  | some u =>
    cases v' with
    | none => exact hx.elim
    | some u' =>
      cases u <;> try (cases h; done)
      rename_i k i
      have e := VR.int_inv hx
      subst e
      simp only at h
      cases hb : (decide (0 ≤ i) && decide (i ≤ (top : Int))) with
      | false => rw [hb] at h; cases h
      | true =>
        rw [hb] at h
        cases h
        simp only [Bool.and_eq_true, decide_eq_true_eq] at hb
        refine ⟨?_, by omega⟩
        unfold Instr.sliceBound
        simp only [asIntOf, Sem.run_bind, Sem.run_pure, Result.andThen_ok]
        rw [if_pos ⟨hb.1, by omega⟩]
        rfl
theorem evO_rel {β : Where} {ev : Val} {ρ : Operand → Value} {x : Option Operand} {l : Option Value} (h : evO ev x = some l) (hO : ∀ y, x = some y → ∀ v, ev y = some v → VR β v (ρ y)) : RO β l (x.map ρ) := by
  cases x with
  | none => cases h; trivial
  | some y =>
    unfold evO at h
    simp only at h
    cases hy : ev y with
    | none => rw [hy] at h; cases h
    | some v => rw [hy] at h; cases h; exact hO y rfl v hy
theorem sliceQ_sound {P : Program} {β : Where} {ev : Val} {ρ : Operand → Value} {t : TypeId} {x : Operand} {lo hi mx : Option Operand} {v : Value} (h : sliceQ P ev t x lo hi mx = some v) (hx : ∀ v, ev x = some v → VR β v (ρ x))
    (hlo : ∀ y, lo = some y → ∀ v, ev y = some v → VR β v (ρ y)) (hhi : ∀ y, hi = some y → ∀ v, ev y = some v → VR β v (ρ y)) (w : World) :
    ∃ v', (Instr.sliceAt t (ρ x) (lo.map ρ) (hi.map ρ) (mx.map ρ)).run P w = .ok v' w ∧ VR β v v' := by
  unfold sliceQ at h
  split at h
  next n o len c l hh e h1 h2 h3 h5 =>
    split at h
    next h' k h6 h7 =>
      split at h
      next l' h8 =>
        cases hb : (Nat.beq l' 0 || Nat.blt l' c) with
        | false => rw [hb] at h; cases h
        | true =>
          rw [hb] at h
          cases h
          obtain ⟨r, hr, ex⟩ := (hx _ h1).sl_inv
          have b1 := bound_run (P := P) (code := .sliceAcap) (top' := c + r.2) h6 (evO_rel h3 hhi) (by omega) w
          have b2 := bound_run (P := P) (code := .sliceB) (top' := h') h8 (evO_rel h2 hlo) (Nat.le_refl _) w
          have hsb : (Instr.sliceBounds true len (c + r.2) (lo.map ρ) (hi.map ρ) none).run P w = .ok (l', h', c + r.2) w := by
            unfold Instr.sliceBounds
            cases hhi' : hi.map ρ with
            | none =>
              rw [hhi'] at b1
              obtain ⟨_, rfl⟩ := b1
              cases hlo' : lo.map ρ with
              | none => rw [hlo'] at b2; obtain ⟨_, rfl⟩ := b2; simp
              | some u => rw [hlo'] at b2; simp [b2.1]
            | some u2 =>
              rw [hhi'] at b1
              cases hlo' : lo.map ρ with
              | none => rw [hlo'] at b2; obtain ⟨_, rfl⟩ := b2; simp [b1.1]
              | some u => rw [hlo'] at b2; simp [b1.1, b2.1]
          refine ⟨.slice (some ⟨r.1, o + l' * k, none⟩) (h' - l') (c - l' + r.2), ?_, .sl hr⟩
          unfold Instr.sliceAt
          simp only [Sem.run_bind, run_underlying h5, Result.andThen_ok, Instr.slice, ex, Option.map_none, hsb, run_sizeOf h7, Sem.run_pure, Option.map_some, add_off]
          simp only [Bool.or_eq_true] at hb
          rcases hb with hb | hb
          · have := Nat.eq_of_beq_eq_true hb
            subst this
            simp
          · have hb : l' < c := Nat.le_of_ble_eq_true hb
            rw [if_neg (by omega), show c + r.2 - l' = c - l' + r.2 by omega]
      next => cases h
    next => cases h
  next => cases h
theorem evS_sound {P : Program} {β : Where} {ev : Val} {ρ : Operand → Value} {o : Oper} {v : Value} (h : evS P ev o = some v) (hO : OR β ev ρ o.op.operands) (w : World) :
    ∃ v', (execOp ρ o).run P w = .ok (.value v') w ∧ VR β v v' := by
  obtain ⟨dst, op, type, pos, after, guard⟩ := o
  unfold OR at hO
  cases op <;> simp only [evS] at h <;> try (cases h; done)
  case move x => exact ⟨_, rfl, hO x (by simp [Op.operands]) v h⟩
  case assign x => exact ⟨_, rfl, hO x (by simp [Op.operands]) v h⟩
  case pick c a b =>
    split at h
    · next t u u' h1 h2 h3 =>
      cases h
      have e1 := (hO c (by simp [Op.operands]) _ h1).bool_inv
      have e2 := hO a (by simp [Op.operands]) _ h2
      have e3 := hO b (by simp [Op.operands]) _ h3
      refine ⟨bif t then ρ a else ρ b, ?_, ?_⟩
      · simp only [execOp, e1, asBool, Sem.run_bind, Sem.run_pure, Result.andThen_ok]
        cases t <;> rfl
      · cases t <;> assumption
    · cases h
  case nilCheck x =>
    split at h
    · next a h1 =>
      cases h
      have e1 := hO x (by simp [Op.operands]) _ h1
      obtain ⟨a', e⟩ := e1.ptr_some
      refine ⟨.pointer (some a'), ?_, e ▸ e1⟩
      simp only [execOp, e]
      rfl
    · cases h
  case fieldAddr st x i =>
    split at h
    · next n o' fs h1 h2 =>
      split at h
      · next f hf =>
        split at h
        · next k hk =>
          cases h
          obtain ⟨r, hr, e⟩ := (hO x (by simp [Op.operands]) _ h1).ptr_inv
          refine ⟨.pointer (some ⟨r.1, o' + f.offset, none⟩), ?_, .ptr hr⟩
          simp only [execOp, e, Instr.fieldAt, Sem.run_bind, run_underlying h2, Result.andThen_ok, hf, Instr.sureAddr, Sem.run_pure, fieldPlace, run_sizeOf hk, add_off]
          simp
        · cases h
      · cases h
    · cases h
  case indexAddr t x ix =>
    split at h
    · next n o' k i len e h1 h2 h3 =>
      split at h
      · next sz hs =>
        cases hb : (decide (0 ≤ i) && decide (i < (len : Int))) with
        | false => rw [hb] at h; cases h
        | true =>
          rw [hb] at h; cases h
          simp only [Bool.and_eq_true, decide_eq_true_eq] at hb
          obtain ⟨r, hr, e1⟩ := (hO x (by simp [Op.operands]) _ h1).ptr_inv
          have e2 := (hO ix (by simp [Op.operands]) _ h2).int_inv
          refine ⟨.pointer (some ⟨r.1, o' + i.toNat * sz, none⟩), ?_, .ptr hr⟩
          simp only [execOp, e1, e2, Instr.indexAt, asIntOf, Sem.run_bind, Sem.run_pure, run_underlying h3, Result.andThen_ok, Instr.sureAddr]
          simp [hb, run_sizeOf hs, add_off]
      · cases h
    · next n o' len c k i e h1 h2 h3 =>
      split at h
      · next sz hs =>
        cases hb : (decide (0 ≤ i) && decide (i < (len : Int))) with
        | false => rw [hb] at h; cases h
        | true =>
          rw [hb] at h; cases h
          simp only [Bool.and_eq_true, decide_eq_true_eq] at hb
          obtain ⟨r, hr, e1⟩ := (hO x (by simp [Op.operands]) _ h1).sl_inv
          have e2 := (hO ix (by simp [Op.operands]) _ h2).int_inv
          refine ⟨.pointer (some ⟨r.1, o' + i.toNat * sz, none⟩), ?_, .ptr hr⟩
          simp only [execOp, e1, e2, Instr.indexAt, asIntOf, Sem.run_bind, Sem.run_pure, run_underlying h3, Result.andThen_ok]
          simp [hb, run_sizeOf hs, add_off]
      · cases h
    · cases h
  case makeFunc fn a b =>
    split at h
    · next x y h1 h2 =>
      cases h
      have k1 := evs_sound (β := β) (ρ := ρ) h1 fun z hz u hu => hO z (by simp [Op.operands]; exact .inl (by simpa using hz)) u hu
      have k2 := evs_sound (β := β) (ρ := ρ) h2 fun z hz u hu => hO z (by simp [Op.operands]; exact .inr (by simpa using hz)) u hu
      refine ⟨.func fn (a.map ρ) (b.map ρ), rfl, ?_⟩
      have ea : a.map ρ = ⟨a.toList.map ρ⟩ := by cases a; simp
      have eb : b.map ρ = ⟨b.toList.map ρ⟩ := by cases b; simp
      rw [ea, eb]
      exact .func k1.1 k1.2 k2.1 k2.2
    · cases h
  case extract x i =>
    split at h
    · next vs h1 =>
      have e1 := hO x (by simp [Op.operands]) _ h1
      obtain ⟨vs⟩ := vs
      generalize hu : ρ x = u' at *
      cases e1 with
      | atom h' => simp [Ev.atom] at h'
      | tuple hl hi =>
        obtain ⟨v', hv', hvr⟩ := VL.get ⟨hl, hi⟩ h
        refine ⟨v', ?_, hvr⟩
        simp only [execOp, hu, Instr.extract]
        simp [hv']
    · cases h
  case binOp op t x y yt =>
    cases h1 : ev x with
    | none => rw [h1] at h; cases h
    | some u =>
    cases h2 : ev y with
    | none => rw [h1, h2] at h; cases h
    | some v2 =>
    cases h3 : P.underlying t with
    | none => rw [h1, h2, h3] at h; cases h
    | some d =>
    rw [h1, h2, h3] at h
    have k1 := hO x (by simp [Op.operands]) _ h1
    have k2 := hO y (by simp [Op.operands]) _ h2
    cases op <;> try (cases h; done)
    · obtain ⟨rfl, hg⟩ := nilQ_sound (P := P) h k1 k2 h3 w
      refine ⟨.bool false, ?_, .atom rfl⟩
      simp only [execOp]
      rw [Sem.run_bind, (hg x y).1]
      rfl
    · obtain ⟨rfl, hg⟩ := nilQ_sound (P := P) h k1 k2 h3 w
      refine ⟨.bool true, ?_, .atom rfl⟩
      simp only [execOp]
      rw [Sem.run_bind, (hg x y).2]
      rfl
  case build t ps =>
    obtain ⟨v', h1, h2⟩ := buildQ_sound h (fun p hp u hu => hO p.2 (by simp only [Op.operands]; simp only [List.mem_toArray, List.mem_map]; exact ⟨p, hp, rfl⟩) u hu) w
    refine ⟨v', ?_, h2⟩
    simp only [execOp, Sem.run_bind, h1, Result.andThen_ok, Sem.run_pure]
  case slice t x lo hi mx =>
    obtain ⟨v', h1, h2⟩ := sliceQ_sound h (fun v hv => hO x (by simp [Op.operands]) v hv) (fun y hy v hv => hO y (by simp [Op.operands, hy]) v hv) (fun y hy v hv => hO y (by simp [Op.operands, hy]) v hv) w
    refine ⟨v', ?_, h2⟩
    simp only [execOp, Sem.run_bind, h1, Result.andThen_ok, Sem.run_pure]
  case call c =>
    obtain ⟨callee, args, argTypes⟩ := c
    obtain ⟨args⟩ := args
    unfold lenQ at h
    split at h
    · next x t hc ha ht =>
      simp only at hc ha ht
      subst hc; subst ha
      split at h
      · next a n c e h1 h2 =>
        cases h
        obtain ⟨a', c', e1⟩ := (hO x (by simp [Op.operands, Call.operands]) _ h1).sl_any
        refine ⟨.int .i64 n, ?_, .atom rfl⟩
        simp only [execOp, resolve, invoke, builtin, Sem.run_bind, Sem.run_pure, Result.andThen_ok, List.map_toArray, List.map_cons, List.map_nil, e1, Builtin.len_, ht]
        simp [run_underlying h2, goInt]
      · cases h
    · next d s t hc ha ht =>
      simp only at hc ha ht
      subst hc; subst ha
      split at h
      · next a n c a2 m c2 e h1 h2 h3 =>
        split at h
        · next k hk =>
          cases hb : (Nat.beq n 0 || Nat.beq m 0) with
          | false => rw [hb] at h; cases h
          | true =>
            rw [hb] at h
            cases h
            obtain ⟨a', c', e1⟩ := (hO d (by simp [Op.operands, Call.operands]) _ h1).sl_any
            obtain ⟨b', c2', e2⟩ := (hO s (by simp [Op.operands, Call.operands]) _ h2).sl_any
            have hn : Nat.min m n = 0 := by
              simp only [Bool.or_eq_true, Nat.beq_eq] at hb
              show min m n = 0
              omega
            refine ⟨.int .i64 0, ?_, .atom rfl⟩
            simp only [execOp, resolve, invoke, builtin, Sem.run_bind, Sem.run_pure, Result.andThen_ok, List.map_toArray, List.map_cons, List.map_nil, e1, e2, Builtin.copy_, ht]
            cases a' <;> cases b' <;> simp [run_underlying h3, run_sizeOf hk, goInt, Builtin.lenOf, hn, Builtin.firstCells, loadCells, loadCellsFrom, storeCells]
        · cases h
      · cases h
    · cases h
end Go.Proofs.YthponidjednfbaaGreatDoor.Ev
