/-
  The evaluator, in stages: what hangs on the code alone is reckoned once.
-/
import Derived.Test.YthponidjednfbaaGreatDoorEvA
namespace Go.Proofs.YthponidjednfbaaGreatDoor.Ev
open RowKit

inductive Bx (α : Type) where
  | no
  | yes (a : α)
noncomputable def Bx.on {α β : Type} (x : Bx α) (f : α → Bx β) : Bx β := Bx.rec .no f x
noncomputable def Bx.run {α β : Type} (x : Bx α) (f : α → Option β) : Option β := Bx.rec none f x
noncomputable def oB {α β : Type} (f : α → Option β) (x : Option α) : Option β := Option.rec (motive := fun _ => Option β) none f x
noncomputable def getB {α : Type} (k : Nat) : Nat → Bx (T α → Option α) :=
  Nat.rec (motive := fun _ => Nat → Bx (T α → Option α)) (fun _ => .no) (fun _ ih n =>
    Bool.rec (Bool.rec ((ih (n / 2 - 1)).on fun g => .yes fun t => T.rec (motive := fun _ => Option α) none (fun _ _ r _ _ => g r) t) ((ih (n / 2)).on fun g => .yes fun t => T.rec (motive := fun _ => Option α) none (fun _ l _ _ _ => g l) t) (Nat.beq (n % 2) 1))
      (.yes fun t => T.rec (motive := fun _ => Option α) none (fun v _ _ _ _ => v) t) (Nat.beq n 0)) k
noncomputable def setB {α : Type} (k : Nat) : Nat → Bx (Option α → T α → T α) :=
  Nat.rec (motive := fun _ => Nat → Bx (Option α → T α → T α)) (fun _ => .no) (fun _ ih n =>
    Bool.rec (Bool.rec ((ih (n / 2 - 1)).on fun g => .yes fun x t => T.rec (motive := fun _ => T α) (.node none .leaf (g x .leaf)) (fun v l r _ _ => .node v l (g x r)) t)
        ((ih (n / 2)).on fun g => .yes fun x t => T.rec (motive := fun _ => T α) (.node none (g x .leaf) .leaf) (fun v l r _ _ => .node v (g x l) r) t) (Nat.beq (n % 2) 1))
      (.yes fun x t => T.rec (motive := fun _ => T α) (.node x .leaf .leaf) (fun _ l r _ _ => .node x l r) t) (Nat.beq n 0)) k
abbrev SF := CallE → St → Option St
abbrev GV := T Value → Option Value
noncomputable def gvB (x : Operand) : Bx GV :=
  match x with
  | .tmp t => getB (t + 1) t
  | .const v => bif flat v then .yes (fun _ => some v) else .no
  | .func g => .yes fun _ => some (.func (.func g) #[] #[])
  | .global _ => .no
noncomputable def putB (dst : Option Tmp) : Bx (Value → St → Option St) :=
  match dst with
  | some d => (setB (d + 1) d).on fun g => .yes fun v s => St.rec (motive := fun _ => Option St) (fun tm sz hp nx df => Bool.rec none (some ⟨g (some v) tm, sz, hp, nx, df⟩) (Nat.ble (d + 1) sz)) s
  | none => .yes fun _ s => some s
/-- a block -/
noncomputable def heapB (n : Nat) (hp : T Blk) : Option Blk := (getB (n + 1) n).run fun g => g hp
noncomputable def genB (P : Program) (o : Oper) : Bx SF := .yes fun call s => stepV P call s o
/-- k cells from o on -/
noncomputable def rowB (k : Nat) : Nat → Bx (T Value → Option (List Value)) :=
  Nat.rec (motive := fun _ => Nat → Bx (T Value → Option (List Value))) (fun _ => .yes fun _ => some []) (fun _ ih o => (getB (o + 1) o).on fun g => (ih (o + 1)).on fun h => .yes fun t => oB (fun v => oB (fun l => some (v :: l)) (h t)) (g t)) k
noncomputable def readB (n : Nat) (hp : T Blk) (f : T Value → Nat → Option Value) : Option Value :=
  oB (fun b => Blk.rec (motive := fun _ => Option Value) (fun cs m _ => f cs m) (fun cs m => f cs m) (fun _ => none) b) (heapB n hp)
noncomputable def ptrB (v : Value) (f : Nat → Nat → Option St) (e : Option St) : Option St :=
  match v with
  | .pointer (some ⟨n, o, none⟩) => f n o
  | _ => e
noncomputable def intB {α : Type} (v : Value) (f : IntKind → Int → Option α) (e : Option α) : Option α :=
  match v with
  | .int k i => f k i
  | _ => e
noncomputable def argsB (l : List Operand) : Bx (T Value → Option (List Value)) :=
  List.rec (motive := fun _ => Bx (T Value → Option (List Value))) (.yes fun _ => some []) (fun x _ ih => (gvB x).on fun g => ih.on fun h => .yes fun t => oB (fun v => oB (fun l => some (v :: l)) (h t)) (g t)) l
noncomputable def stepB (P : Program) (o : Oper) : Bx SF :=
  match o.op with
  | .move x => (gvB x).on fun g => (putB o.dst).on fun p => .yes fun _ s => oB (fun v => p v s) (g s.tm)
  | .assign x => (gvB x).on fun g => (putB o.dst).on fun p => .yes fun _ s => oB (fun v => p v s) (g s.tm)
  | .pick c a b => (gvB c).on fun c => (gvB a).on fun a => (gvB b).on fun b => (putB o.dst).on fun p => .yes fun _ s => oB (fun u => oB (fun v => oB (fun w => match w with | .bool t => p (Bool.rec v u t) s | _ => none) (c s.tm)) (b s.tm)) (a s.tm)
  | .nilCheck x => (gvB x).on fun g => (putB o.dst).on fun p => .yes fun call s => oB (fun v => match v with | .pointer (some a) => p (.pointer (some a)) s | _ => stepV P call s o) (g s.tm)
  | .fieldAddr st x i => match P.underlying st with
    | some (.struct fs) => match fs[i]? with
      | some f => match sizeOf P f.type with
        | some (_ + 1) => (gvB x).on fun g => (putB o.dst).on fun p => .yes fun _ s => oB (fun v => ptrB v (fun n off => p (.pointer (some ⟨n, off + f.offset, none⟩)) s) none) (g s.tm)
        | _ => .no
      | none => .no
    | _ => .no
  | .load t a => match isAgg P t, sizeOf P t with
    | some true, some k => (gvB a).on fun g => (putB o.dst).on fun p => .yes fun _ s => oB (fun v => ptrB v (fun n off => oB (fun u => p u s) (readB n s.hp fun cs m => Bool.rec none ((rowB k off).run fun r => oB (fun l => some (.agg ⟨l⟩)) (r cs)) (Nat.ble (off + k) m))) none) (g s.tm)
    | some false, _ => (gvB a).on fun g => (putB o.dst).on fun p => .yes fun _ s => oB (fun v => ptrB v (fun n off => oB (fun u => p u s) (readB n s.hp fun cs m => Bool.rec none ((getB (off + 1) off).run fun r => r cs) (Nat.ble (off + 1) m))) none) (g s.tm)
    | _, _ => .no
  | .binOp op t x y _ => (gvB x).on fun gx => (gvB y).on fun gy => (putB o.dst).on fun p => .yes fun call s => oB (fun u => oB (fun v => intB u (fun k a => intB v (fun k' b => oB (fun r => Bool.rec none (p r s) (flat r)) (runP P (binOp op t (.int k a) (.int k' b)))) (stepV P call s o)) (stepV P call s o)) (gy s.tm)) (gx s.tm)
  | .indexAddr t x ix => match P.underlying t with
    | some (.slice e) => match sizeOf P e with
      | some k => (gvB x).on fun gx => (gvB ix).on fun gi => (putB o.dst).on fun p => .yes fun call s => oB (fun u => oB (fun v => match u with
          | .slice (some ⟨n, off, none⟩) len _ => intB v (fun _ i => Bool.rec none (p (.pointer (some ⟨n, off + i.toNat * k, none⟩)) s) (decide (0 ≤ i) && decide (i < (len : Int)))) none
          | _ => stepV P call s o) (gi s.tm)) (gx s.tm)
      | none => genB P o
    | _ => genB P o
  | .store t a x => match sizeOf P t with
    | some k => (gvB a).on fun ga => (gvB x).on fun gx => (putB o.dst).on fun p => .yes fun _ s => oB (fun u => oB (fun v => ptrB u (fun n off => Bool.rec none (oB (fun hp' => p undef ⟨s.tm, s.sz, hp', s.nx, s.df⟩) (storeAt s.hp n off v.cells.toList)) (Nat.beq v.cells.size k)) none) (gx s.tm)) (ga s.tm)
    | none => .no
  | .extract x i => (gvB x).on fun g => (putB o.dst).on fun p => .yes fun _ s => oB (fun v => match v with | .tuple vs => oB (fun u => p u s) (vs.toList[i]?) | _ => none) (g s.tm)
  | .alloc t => match zeroA P t with
    | some z => Bool.rec .no ((putB o.dst).on fun p => .yes fun _ s => p (.pointer (some ⟨s.nx, 0, none⟩)) ⟨s.tm, s.sz, s.hp.set (some (.row (setN .leaf 0 z) z.length t)) s.nx, s.nx + 1, s.df⟩) (Nat.ble z.length 1000000)
    | none => .no
  | .unOp op _ x => (gvB x).on fun g => (putB o.dst).on fun p => .yes fun _ s => oB (fun u => Bool.rec none (oB (fun r => Bool.rec none (p r s) (flat r)) (runP P (Op.unary op u))) (flat u)) (g s.tm)
  | .call c => match c.callee with
    | .value (.func g) => Bool.rec (genB P o) ((argsB c.args.toList).on fun ga => (putB o.dst).on fun p => .yes fun call s => oB (fun l => oB (fun r => p r.1 ⟨s.tm, s.sz, r.2.1, r.2.2, s.df⟩) (call g l s.hp s.nx)) (ga s.tm)) (enters P g)
    | .builtin .len => match c.args.toList, c.argTypes[0]? with
      | [x], some t => match P.underlying t with
        | some (.slice _) => (gvB x).on fun g => (putB o.dst).on fun p => .yes fun _ s => oB (fun v => match v with | .slice _ n _ => p (.int .i64 n) s | _ => none) (g s.tm)
        | _ => genB P o
      | _, _ => genB P o
    | _ => genB P o
  | _ => genB P o
abbrev WF := T Value → Option Bool
noncomputable def opB (P : Program) (ops : Array Oper) (o : Oper) : Bx SF :=
  match o.guard with
  | none => stepB P o
  | some (j, want) => match (ops[j]?).bind (·.dst) with
    | some t => (getB (t + 1) t).on fun g => (stepB P o).on fun f => (putB o.dst).on fun p => .yes fun call s => oB (fun v => match v with
        | .bool b => Bool.rec (p undef s) (f call s) (b == want)
        | _ => p undef s) (g s.tm)
    | none => (putB o.dst).on fun p => .yes fun _ s => p undef s
noncomputable def seqB (P : Program) (ops : Array Oper) (l : List Oper) : Bx SF :=
  List.rec (motive := fun _ => Bx SF) (.yes fun _ s => some s) (fun o _ ih => (opB P ops o).on fun f => ih.on fun g => .yes fun call s => oB (fun s' => g call s') (f call s)) l
theorem on_yes {α β : Type} {x : Bx α} {f : α → Bx β} {b : β} (h : x.on f = .yes b) : ∃ a, x = .yes a ∧ f a = .yes b := by
  cases x with
  | no => cases h
  | yes a => exact ⟨a, rfl, h⟩
theorem run_some {α β : Type} {x : Bx α} {f : α → Option β} {b : β} (h : x.run f = some b) : ∃ a, x = .yes a ∧ f a = some b := by
  cases x with
  | no => cases h
  | yes a => exact ⟨a, rfl, h⟩
theorem oB_some {α β : Type} {f : α → Option β} {x : Option α} {b : β} (h : oB f x = some b) : ∃ a, x = some a ∧ f a = some b := by
  cases x with
  | none => cases h
  | some a => exact ⟨a, rfl, h⟩
theorem boolRec_some {β : Type} {x : Option β} {c : Bool} {b : β} (h : (Bool.rec none x c : Option β) = some b) : c = true ∧ x = some b := by
  cases c with
  | false => cases h
  | true => exact ⟨rfl, h⟩
theorem one_fuel {α : Type} (x : α) : ∀ (k k' n : Nat), n < k → n < k' → T.one x k n = T.one x k' n
  | 0, _, _, h, _ => by omega
  | _ + 1, 0, _, _, h => by omega
  | k + 1, k' + 1, n, h, h' => by
    rw [T.one, T.one]
    by_cases h0 : n = 0
    · rw [beq_t h0]; rfl
    · rw [beq_f h0]
      simp only [cond_false]
      rw [one_fuel x k k' (n / 2) (by omega) (by omega), one_fuel x k k' (n / 2 - 1) (by omega) (by omega)]
theorem getB_get {α : Type} : ∀ (k n : Nat) (g : T α → Option α), getB k n = .yes g → ∀ t, g t = t.get n
  | 0, n, g, h, t => by cases h
  | k + 1, n, g, h, t => by
    have h : (Bool.rec (Bool.rec ((getB k (n / 2 - 1)).on fun g => .yes fun t => T.rec (motive := fun _ => Option α) none (fun _ _ r _ _ => g r) t) ((getB k (n / 2)).on fun g => .yes fun t => T.rec (motive := fun _ => Option α) none (fun _ l _ _ _ => g l) t) (Nat.beq (n % 2) 1))
      (.yes fun t => T.rec (motive := fun _ => Option α) none (fun v _ _ _ _ => v) t) (Nat.beq n 0) : Bx (T α → Option α)) = .yes g := h
    by_cases h0 : n = 0
    · rw [beq_t h0] at h
      cases h
      cases t with
      | leaf => rfl
      | node v l r => rw [T.get, beq_t h0]; rfl
    · rw [beq_f h0] at h
      by_cases h1 : n % 2 = 1
      · rw [beq_t h1] at h
        obtain ⟨g', hg', h⟩ := on_yes h
        cases h
        cases t with
        | leaf => rfl
        | node v l r => rw [T.get, beq_f h0, beq_t h1]; exact getB_get k _ g' hg' l
      · rw [beq_f h1] at h
        obtain ⟨g', hg', h⟩ := on_yes h
        cases h
        cases t with
        | leaf => rfl
        | node v l r => rw [T.get, beq_f h0, beq_f h1]; exact getB_get k _ g' hg' r
theorem setB_set {α : Type} : ∀ (k n : Nat) (g : Option α → T α → T α), n < k → setB k n = .yes g → ∀ (x : α) t, g (some x) t = t.set (some x) n
  | 0, n, g, hn, h, x, t => by cases h
  | k + 1, n, g, hn, h, x, t => by
    have h : (Bool.rec (Bool.rec ((setB k (n / 2 - 1)).on fun g => .yes fun x t => T.rec (motive := fun _ => T α) (.node none .leaf (g x .leaf)) (fun v l r _ _ => .node v l (g x r)) t)
        ((setB k (n / 2)).on fun g => .yes fun x t => T.rec (motive := fun _ => T α) (.node none (g x .leaf) .leaf) (fun v l r _ _ => .node v (g x l) r) t) (Nat.beq (n % 2) 1))
      (.yes fun x t => T.rec (motive := fun _ => T α) (.node x .leaf .leaf) (fun _ l r _ _ => .node x l r) t) (Nat.beq n 0) : Bx (Option α → T α → T α)) = .yes g := h
    have leafS : ∀ m, (T.leaf : T α).set (some x) m = T.one x (m + 1) m := fun m => rfl
    by_cases h0 : n = 0
    · rw [beq_t h0] at h
      cases h
      cases t with
      | leaf => rw [leafS, T.one, beq_t h0]; rfl
      | node v l r => rw [T.set, beq_t h0]; rfl
    · rw [beq_f h0] at h
      by_cases h1 : n % 2 = 1
      · rw [beq_t h1] at h
        obtain ⟨g', hg', h⟩ := on_yes h
        cases h
        have ih := setB_set k _ g' (by omega) hg' x
        cases t with
        | leaf =>
          rw [leafS, T.one, beq_f h0, beq_t h1]
          show T.node none (g' (some x) .leaf) .leaf = T.node none (T.one x n (n / 2)) .leaf
          rw [ih, leafS, one_fuel x _ n (n / 2) (by omega) (by omega)]
        | node v l r => rw [T.set, beq_f h0, beq_t h1]; exact congrArg (T.node v · r) (ih l)
      · rw [beq_f h1] at h
        obtain ⟨g', hg', h⟩ := on_yes h
        cases h
        have ih := setB_set k _ g' (by omega) hg' x
        cases t with
        | leaf =>
          rw [leafS, T.one, beq_f h0, beq_f h1]
          show T.node none .leaf (g' (some x) .leaf) = T.node none .leaf (T.one x n (n / 2 - 1))
          rw [ih, leafS, one_fuel x _ n (n / 2 - 1) (by omega) (by omega)]
        | node v l r => rw [T.set, beq_f h0, beq_f h1]; exact congrArg (T.node v l) (ih r)
theorem gvB_ev {x : Operand} {g : GV} (h : gvB x = .yes g) (tm : T Value) : g tm = evF tm.get x := by
  cases x with
  | tmp t => have h : getB (t + 1) t = .yes g := h; exact getB_get _ _ g h tm
  | const v =>
    have h : (bif flat v then .yes (fun _ => some v) else .no : Bx GV) = .yes g := h
    cases hf : flat v with
    | false => rw [hf] at h; cases h
    | true => rw [hf] at h; cases h; simp [evF, hf]
  | func f => cases h; rfl
  | global n => cases h
theorem putB_put {dst : Option Tmp} {p : Value → St → Option St} (h : putB dst = .yes p) {v : Value} {s s' : St} (hp : p v s = some s') : s.put dst v = some s' := by
  cases dst with
  | none => cases h; exact hp
  | some d =>
    obtain ⟨g, hg, h⟩ := on_yes h
    cases h
    obtain ⟨tm, sz, hp0, nx, df⟩ := s
    have hp : (Bool.rec none (some ⟨g (some v) tm, sz, hp0, nx, df⟩) (Nat.ble (d + 1) sz) : Option St) = some s' := hp
    obtain ⟨h1, h2⟩ := boolRec_some hp
    unfold St.put
    simp only
    rw [show Nat.blt d sz = true from h1]
    rw [setB_set _ _ g (by omega) hg v tm] at h2
    exact h2
theorem heapB_get {n : Nat} {hp : T Blk} {b : Blk} (h : heapB n hp = some b) : hp.get n = some b := by
  obtain ⟨g, hg, h⟩ := run_some h
  rw [getB_get _ _ g hg hp] at h
  exact h
theorem rowB_get : ∀ (k o : Nat) (g : T Value → Option (List Value)), rowB k o = .yes g → ∀ t l, g t = some l → getN t o k = some l
  | 0, o, g, h, t, l, hl => by cases h; exact hl
  | k + 1, o, g, h, t, l, hl => by
    obtain ⟨g1, h1, h⟩ := on_yes (show ((getB (o + 1) o).on fun g => (rowB k (o + 1)).on fun h => .yes fun t => oB (fun v => oB (fun l => some (v :: l)) (h t)) (g t)) = .yes g from h)
    obtain ⟨g2, h2, h⟩ := on_yes h
    cases h
    obtain ⟨v, hv, hl⟩ := oB_some hl
    obtain ⟨r, hr, hl⟩ := oB_some hl
    cases hl
    rw [getN, ← getB_get _ _ g1 h1 t, hv, rowB_get k (o + 1) g2 h2 t r hr]
theorem readB_some {n : Nat} {hp : T Blk} {f : T Value → Nat → Option Value} {v : Value} (h : readB n hp f = some v) : ∃ cs m, rdOf hp n = some (cs, m) ∧ f cs m = some v := by
  obtain ⟨b, hb, h⟩ := oB_some h
  unfold rdOf
  rw [heapB_get hb]
  cases b with
  | row cs m ty => exact ⟨cs, m, rfl, h⟩
  | ro cs m => exact ⟨cs, m, rfl, h⟩
  | map es => cases h
theorem argsB_evs : ∀ (l : List Operand) (g : T Value → Option (List Value)), argsB l = .yes g → ∀ tm r, g tm = some r → evs (evF tm.get) l = some r
  | [], g, h, tm, r, hr => by cases h; exact hr
  | x :: l, g, h, tm, r, hr => by
    obtain ⟨g1, h1, h⟩ := on_yes (show ((gvB x).on fun g => (argsB l).on fun h => .yes fun t => oB (fun v => oB (fun l => some (v :: l)) (h t)) (g t)) = .yes g from h)
    obtain ⟨g2, h2, h⟩ := on_yes h
    cases h
    obtain ⟨v, hv, hr⟩ := oB_some hr
    obtain ⟨r', hr', hr⟩ := oB_some hr
    cases hr
    rw [evs, ← gvB_ev h1, hv, argsB_evs l g2 h2 tm r' hr']
theorem stepV_of {P : Program} {call : CallE} {s s' : St} {o : Oper} {v : Value} {hp : T Blk} {nx : Nat} (h : evDo P call (evF s.tm.get) s.hp s.nx o = some (v, hp, nx, none)) (hp' : St.put ⟨s.tm, s.sz, hp, nx, s.df⟩ o.dst v = some s') : stepV P call s o = some s' := by
  unfold stepV
  rw [h]
  exact hp'
theorem ptrB_some {v : Value} {f : Nat → Nat → Option St} {s' : St} (h : ptrB v f none = some s') : ∃ n o, v = .pointer (some ⟨n, o, none⟩) ∧ f n o = some s' := by
  unfold ptrB at h
  split at h
  · exact ⟨_, _, rfl, h⟩
  · cases h
theorem pureQ_of {P : Program} {ev : Val} {o : Oper} {r : Value} (h1 : noSel o.op = true) (h2 : ∀ x ∈ o.op.operands.toList, ∃ v, ev x = some v ∧ flat v = true) (h3 : runP P (execOp (fun x => (ev x).getD undef) o) = some (.value r)) (h4 : flat r = true) : pureQ P ev o = some r := by
  unfold pureQ
  have : (noSel o.op && o.op.operands.toList.all (flatE ev)) = true := by
    rw [h1, Bool.true_and, List.all_eq_true]
    intro x hx
    obtain ⟨v, hv, hf⟩ := h2 x hx
    unfold flatE
    rw [hv]; exact hf
  rw [this, cond_true, h3]
  simp only [h4, cond_true]
theorem runP_bind {P : Program} {α β : Type} : ∀ {m : Sem α} {f : α → Sem β} {a : α}, runP P m = some a → runP P (m >>= f) = runP P (f a) := by
  intro m
  induction m with
  | pure b => intro f a h; simp only [runP, Option.some.injEq] at h; subst h; rfl
  | program k ih => intro f a h; exact ih P h
  | mark m k ih => intro f a h; exact ih h
  | _ => intro f a h; simp [runP] at h
end Go.Proofs.YthponidjednfbaaGreatDoor.Ev
