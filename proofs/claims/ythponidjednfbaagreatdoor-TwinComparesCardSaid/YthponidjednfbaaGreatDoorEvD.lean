/-
  The evaluator, in stages: code, functions, calls.
-/
import Derived.Test.YthponidjednfbaaGreatDoorEvC
import Derived.LoopN
import Derived.Scope
import Derived.Defers
namespace Go.Proofs.YthponidjednfbaaGreatDoor.Ev
open RowKit

inductive Ex where
  | normal | exit (id : Nat) | ret
structure Fr where
  e : Ex
  s : St
def Ex.out : Ex → Exit
  | .normal => .normal
  | .exit id => .exit id
  | .ret => .ret
/-- code -/
abbrev CF := CallE → St → Option Fr
noncomputable def loopB (f : CF) (k : Nat) : CF := fun call => Nat.rec (motive := fun _ => St → Option Fr) (fun _ => none) (fun _ ih s => oB (fun fr => Fr.rec (motive := fun _ => Option Fr) (fun e s' => Ex.rec (motive := fun _ => Option Fr) (ih s') (fun id => some ⟨.exit id, s'⟩) (some ⟨.ret, s'⟩) e) fr) (f call s)) k
noncomputable def codeB (P : Program) (k : Nat) (c : Code) : Bx CF :=
  Code.rec (motive := fun _ => Bx CF)
    (.yes fun _ s => some ⟨.normal, s⟩)
    (fun _ ops draw => Bool.rec ((seqB P ops ops.toList).on fun f => .yes fun call s => oB (fun s' => some ⟨.normal, s'⟩) (f call s))
      (bif ssa ops && P.follows .mixedOrders then Bx.yes fun call s => oB (fun s' => some ⟨.normal, s'⟩) (evAny P call ops (ops.size + 1) [] [] s) else .no) draw)
    (fun _ _ f g => f.on fun f => g.on fun g => .yes fun call s => oB (fun fr => Fr.rec (motive := fun _ => Option Fr) (fun e s' => Ex.rec (motive := fun _ => Option Fr) (g call s') (fun id => some ⟨.exit id, s'⟩) (some ⟨.ret, s'⟩) e) fr) (f call s))
    (fun c _ _ f g => (gvB c).on fun c => f.on fun f => g.on fun g => .yes fun call s => oB (fun v => match v with | .bool b => Bool.rec (g call s) (f call s) b | _ => none) (c s.tm))
    (fun id _ f => f.on fun f => .yes fun call s => oB (fun fr => Fr.rec (motive := fun _ => Option Fr) (fun e s' => Ex.rec (motive := fun _ => Option Fr) (some ⟨.normal, s'⟩) (fun j => Bool.rec (some ⟨.exit j, s'⟩) (some ⟨.normal, s'⟩) (Nat.beq j id)) (some ⟨.ret, s'⟩) e) fr) (f call s))
    (fun _ f => f.on fun f => .yes (loopB f k))
    (fun _ _ _ _ _ _ => .no)
    (fun id => .yes fun _ s => some ⟨.exit id, s⟩)
    (fun _ f => f)
    (fun _ => .yes fun _ s => some ⟨.normal, s⟩)
    (fun _ => .no)
    (.yes fun _ s => some ⟨.ret, s⟩)
    (fun _ => .no) c
theorem opB_sound {P : Program} {ops : Array Oper} {o : Oper} {call : CallE} {s s' : St} {f : SF} (h : opB P ops o = .yes f) (hs : f call s = some s') :
    (wantedF ops o s.tm.get = some true ∧ stepV P call s o = some s') ∨ (wantedF ops o s.tm.get = some false ∧ s.put o.dst undef = some s') := by
  unfold opB at h
  unfold wantedF
  split at h
  · next hg => rw [hg]; exact .inl ⟨rfl, stepB_sound h hs⟩
  · next j want hg =>
    rw [hg]
    simp only
    split at h
    · next t ht =>
      rw [ht]
      obtain ⟨g, h1, h⟩ := on_yes h
      obtain ⟨f', h2, h⟩ := on_yes h
      obtain ⟨p, h3, h⟩ := on_yes h
      cases h
      obtain ⟨v, hv, hs⟩ := oB_some hs
      rw [getB_get _ _ g h1] at hv
      simp only [hv]
      split at hs
      · next b =>
        cases hbw : (b == want) with
        | true => rw [hbw] at hs; exact .inl ⟨by simp only [hbw], stepB_sound h2 hs⟩
        | false => rw [hbw] at hs; exact .inr ⟨by simp only [hbw], putB_put h3 hs⟩
      · next hn =>
        cases v with
        | bool b => exact absurd rfl (hn b)
        | _ => exact .inr ⟨rfl, putB_put h3 hs⟩
    · next ht =>
      rw [ht]
      obtain ⟨p, h3, h⟩ := on_yes h
      cases h
      exact .inr ⟨rfl, putB_put h3 hs⟩
theorem seqB_sound {P : Program} {ops : Array Oper} {call : CallE} : ∀ (l : List Oper) (f : SF), seqB P ops l = .yes f → ∀ s s', f call s = some s' → evSeq P call ops l s = some s'
  | [], f, h, s, s', hs => by cases h; exact hs
  | o :: rest, f, h, s, s', hs => by
    obtain ⟨f1, h1, h⟩ := on_yes (show ((opB P ops o).on fun f => (seqB P ops rest).on fun g => .yes fun call s => oB (fun s' => g call s') (f call s)) = .yes f from h)
    obtain ⟨f2, h2, h⟩ := on_yes h
    cases h
    obtain ⟨s1, hs1, hs⟩ := oB_some hs
    have ih := seqB_sound rest f2 h2 s1 s' hs
    rw [evSeq]
    rcases opB_sound h1 hs1 with ⟨hw, hv⟩ | ⟨hw, hv⟩ <;> simp only [hw, hv] <;> exact ih
/-- what a piece of code does where it stands -/
def Does (P : Program) (O : Org) (call : CallE) (c : Code) (f : CF) : Prop :=
  ∀ (s : St) (fr : Fr), f call s = some fr → ∀ (Q : Exit → Act → World → Prop) (a : Act) (w : World), At P O s a w → (∀ a w, At P O fr.s a w → Q fr.e.out a w) → c.wp P Q a w
theorem loopB_sound {P : Program} {O : Org} {call : CallE} {c : Code} {f : CF} (hf : Does P O call c f) : ∀ (k : Nat) (s : St) (fr : Fr), loopB f k call s = some fr → ∀ (Q : Exit → Act → World → Prop) (a : Act) (w : World), At P O s a w → (∀ a w, At P O fr.s a w → Q fr.e.out a w) → Code.rounds P c Q k a w
  | 0, s, fr, h, Q, a, w, hA, hQ => by cases h
  | k + 1, s, fr, h, Q, a, w, hA, hQ => by
    have h : oB (fun fr => Fr.rec (motive := fun _ => Option Fr) (fun e s' => Ex.rec (motive := fun _ => Option Fr) (loopB f k call s') (fun id => some ⟨.exit id, s'⟩) (some ⟨.ret, s'⟩) e) fr) (f call s) = some fr := h
    obtain ⟨⟨e, s1⟩, h1, h⟩ := oB_some h
    show c.wp P (Exit.then (Code.rounds P c Q k) Q) a w
    refine hf s _ h1 _ a w hA fun a' w' hA' => ?_
    cases e with
    | normal => exact loopB_sound hf k s1 fr h Q a' w' hA' hQ
    | exit id => cases h; exact hQ a' w' hA'
    | ret => cases h; exact hQ a' w' hA'
theorem codeB_sound {P : Program} {O : Org} {call : CallE} (hcall : CallOK P O.N0 call) (k : Nat) (c : Code) : ∀ f, codeB P k c = .yes f → Does P O call c f := by
  induction c with
  | skip => intro f h s fr hs Q a w hA hQ; cases h; cases hs; exact wp_skip (hQ a w hA)
  | label l => intro f h s fr hs Q a w hA hQ; cases h; cases hs; exact wp_label (hQ a w hA)
  | exit id => intro f h s fr hs Q a w hA hQ; cases h; cases hs; exact wp_exit (hQ a w hA)
  | ret => intro f h s fr hs Q a w hA hQ; cases h; cases hs; exact wp_ret (hQ a w hA)
  | region id ops draw =>
    intro f h s fr hs Q a w hA hQ
    cases draw with
    | false =>
      obtain ⟨g, hg, h⟩ := on_yes (show ((seqB P ops ops.toList).on fun f => Bx.yes (α := CF) fun call s => oB (fun s' => some ⟨.normal, s'⟩) (f call s)) = .yes f from h)
      cases h
      obtain ⟨s', hs1, hs⟩ := oB_some hs
      cases hs
      exact wp_region_list (evSeq_sound hcall (fun a w hA => hQ a w hA) ops.toList s a w hA (seqB_sound _ g hg s s' hs1))
    | true =>
      have h : (bif ssa ops && P.follows .mixedOrders then Bx.yes fun call s => oB (fun s' => some ⟨.normal, s'⟩) (evAny P call ops (ops.size + 1) [] [] s) else .no : Bx CF) = .yes f := h
      cases hb : (ssa ops && P.follows .mixedOrders) with
      | false => rw [hb] at h; cases h
      | true =>
        rw [hb, cond_true] at h
        simp only [Bool.and_eq_true] at hb
        cases h
        obtain ⟨s', hs1, hs⟩ := oB_some hs
        cases hs
        exact evAny_sound hcall hb.1 hb.2 hA hs1 (fun a w hA => hQ a w hA) id
  | seq x y ihx ihy =>
    intro f h s fr hs Q a w hA hQ
    obtain ⟨f1, h1, h⟩ := on_yes (show ((codeB P k x).on fun f => (codeB P k y).on fun g => Bx.yes (α := CF) fun call s => oB (fun fr => Fr.rec (motive := fun _ => Option Fr) (fun e s' => Ex.rec (motive := fun _ => Option Fr) (g call s') (fun id => some ⟨.exit id, s'⟩) (some ⟨.ret, s'⟩) e) fr) (f call s)) = .yes f from h)
    obtain ⟨f2, h2, h⟩ := on_yes h
    cases h
    obtain ⟨⟨e, s1⟩, hs1, hs⟩ := oB_some hs
    refine wp_seq (ihx f1 h1 s _ hs1 _ a w hA fun a' w' hA' => ?_)
    cases e with
    | normal => exact ihy f2 h2 s1 fr hs Q a' w' hA' hQ
    | exit id => cases hs; exact hQ a' w' hA'
    | ret => cases hs; exact hQ a' w' hA'
  | cond c x y ihx ihy =>
    intro f h s fr hs Q a w hA hQ
    obtain ⟨g, hg, h⟩ := on_yes (show ((gvB c).on fun c => (codeB P k x).on fun f => (codeB P k y).on fun g => Bx.yes (α := CF) fun call s => oB (fun v => match v with | .bool b => Bool.rec (g call s) (f call s) b | _ => none) (c s.tm)) = .yes f from h)
    obtain ⟨f1, h1, h⟩ := on_yes h
    obtain ⟨f2, h2, h⟩ := on_yes h
    cases h
    obtain ⟨v, hv, hs⟩ := oB_some hs
    rw [gvB_ev hg] at hv
    have hc : ∀ b, evF s.tm.get c = some (.bool b) → a.eval c = .bool b := fun b hb => by
      obtain ⟨β, A⟩ := hA
      exact (evF_sound (β := β) (a := a) (xs := #[c]) (fun t _ v hv => A.tm t v hv) c (by simp) _ hb).bool_inv
    split at hs
    · next b =>
      cases b with
      | true => exact wp_cond_true (hc _ hv) (ihx f1 h1 s fr hs Q a w hA hQ)
      | false => exact wp_cond_false (hc _ hv) (ihy f2 h2 s fr hs Q a w hA hQ)
    · cases hs
  | block id c ih =>
    intro f h s fr hs Q a w hA hQ
    obtain ⟨f1, h1, h⟩ := on_yes (show ((codeB P k c).on fun f => Bx.yes (α := CF) fun call s => oB (fun fr => Fr.rec (motive := fun _ => Option Fr) (fun e s' => Ex.rec (motive := fun _ => Option Fr) (some ⟨.normal, s'⟩) (fun j => Bool.rec (some ⟨.exit j, s'⟩) (some ⟨.normal, s'⟩) (Nat.beq j id)) (some ⟨.ret, s'⟩) e) fr) (f call s)) = .yes f from h)
    cases h
    obtain ⟨⟨e, s1⟩, hs1, hs⟩ := oB_some hs
    refine wp_block (ih f1 h1 s _ hs1 _ a w hA fun a' w' hA' => ?_)
    cases e with
    | normal => cases hs; exact hQ a' w' hA'
    | ret => cases hs; exact hQ a' w' hA'
    | exit j =>
      have hs : (Bool.rec (some ⟨.exit j, s1⟩) (some ⟨.normal, s1⟩) (Nat.beq j id) : Option Fr) = some fr := hs
      show (if j = id then Q .normal a' w' else Q (.exit j) a' w')
      cases hb : Nat.beq j id with
      | false =>
        rw [hb] at hs; cases hs
        have hne : j ≠ id := fun e => by rw [beq_t e] at hb; cases hb
        rw [if_neg hne]
        exact hQ a' w' hA'
      | true =>
        rw [hb] at hs; cases hs
        rw [if_pos (Nat.eq_of_beq_eq_true hb)]
        exact hQ a' w' hA'
  | loop c ih =>
    intro f h s fr hs Q a w hA hQ
    obtain ⟨f1, h1, h⟩ := on_yes (show ((codeB P k c).on fun f => (Bx.yes (loopB f k) : Bx CF)) = .yes f from h)
    cases h
    exact wp_loop_rounds k (loopB_sound (ih f1 h1) k s fr hs Q a w hA hQ)
  | scope c ih =>
    intro f h s fr hs Q a w hA hQ
    have h : codeB P k c = .yes f := h
    refine wp_scope_straight (ih f h s fr hs _ a w hA fun a' w' hA' => ?_)
    obtain ⟨e, s'⟩ := fr
    cases e <;> exact hQ a' w' hA'
  | _ => intro f h; cases h
/-- a function's results -/
def resQ (P : Program) (s : St) : List ResultVar → Option (List Value)
  | [] => some []
  | .tmp t :: l => match s.tm.get t, resQ P s l with
    | some v, some r => some (v :: r)
    | _, _ => none
  | .cell a t :: l => match s.tm.get a, resQ P s l with
    | some (.pointer (some ⟨n, o, none⟩)), some r => match loadAt P s.hp t n o with
      | some v => some (v :: r)
      | none => none
    | _, _ => none
def tupleOf : List Value → Value
  | [v] => v
  | l => .tuple ⟨l⟩
/-- functions that do nothing where nothing panics -/
def IdleOK (P : Program) (idle : FuncId → Bool) : Prop :=
  ∀ g, idle g = true → enters P g = true ∧ ∀ args w, CallsD P g args .returning w fun e u' w' => (∃ v, e = .returned v) ∧ u' = .returning ∧ w' = w
def resSem (tmps : Array Value) : ResultVar → Sem Value
  | .tmp t => pure (tmps.getD t undef)
  | .cell a t => do loadVar t (← asAddr (tmps.getD a undef))
theorem resQ_sound {P : Program} {O : Org} {s : St} {β : Where} {a : Act} {w : World} (A : AtB P O s β a w) : ∀ {rs : List ResultVar} {l : List Value}, resQ P s rs = some l → ∃ l', (rs.mapM (resSem a.tmps)).run P w = .ok l' w ∧ VL β l l'
  | [], l, h => by cases h; exact ⟨[], rfl, VL.nil⟩
  | .tmp t :: rs, l, h => by
    rw [resQ] at h
    split at h
    · next v r h1 h2 =>
      cases h
      obtain ⟨l', k1, k2⟩ := resQ_sound A h2
      obtain ⟨v', k3, k4⟩ := A.tm t v h1
      refine ⟨v' :: l', ?_, VL.cons k4 k2⟩
      rw [List.mapM_cons]
      have : a.tmps.getD t undef = v' := by simp [Array.getD_eq_getD_getElem?, k3]
      simp only [resSem, this, Sem.run_bind, Sem.run_pure, Result.andThen_ok, k1]
    · cases h
  | .cell ad t :: rs, l, h => by
    rw [resQ] at h
    split at h
    · next n o r h1 h2 =>
      split at h
      · next v h3 =>
        cases h
        obtain ⟨l', k1, k2⟩ := resQ_sound A h2
        obtain ⟨p, k3, k4⟩ := A.tm ad _ h1
        obtain ⟨r0, hr, rfl⟩ := k4.ptr_inv
        obtain ⟨v', k5, k6⟩ := load_sound A.stp.inv h3 hr
        refine ⟨v' :: l', ?_, VL.cons k6 k2⟩
        rw [List.mapM_cons]
        have : a.tmps.getD ad undef = .pointer (some ⟨r0.1, o, none⟩) := by simp [Array.getD_eq_getD_getElem?, k3]
        simp only [resSem, this, asAddr, Sem.run_bind, Sem.run_pure, Result.andThen_ok, k1, k5]
      · cases h
    · cases h
theorem tupleOf_VR {β : Where} : ∀ {l l' : List Value}, VL β l l' → VR β (tupleOf l) (tupleOf l')
  | [], [], h => h.tuple
  | [v], [v'], h => h.2 0 v v' rfl rfl
  | u :: v :: l, u' :: v' :: l', h => h.tuple
  | [], _ :: _, h => by have := h.1; simp at this
  | _ :: _, [], h => by have := h.1; simp at this
  | [_], _ :: _ :: _, h => by have := h.1; simp at this
  | _ :: _ :: _, [_], h => by have := h.1; simp at this
theorem results_run {P : Program} {fn : Func} {tmps : Array Value} {w : World} {l : List Value} (h : (fn.results.toList.mapM (resSem tmps)).run P w = .ok l w) : (results fn tmps).run P w = .ok (tupleOf l) w := by
  have he : results fn tmps = (do let vs ← fn.results.mapM (resSem tmps); pure (if h : vs.size = 1 then vs[0] else .tuple vs)) := by
    unfold results
    congr 1
  rw [he, Array.mapM_eq_mapM_toList]
  simp only [Sem.run_bind, map_eq_pure_bind, h, Result.andThen_ok, Sem.run_pure]
  congr 1
  match l with
  | [] => rfl
  | [v] => rfl
  | u :: v :: l => simp [tupleOf]
theorem leaves_idle {P : Program} {idle : FuncId → Bool} (hi : IdleOK P idle) {fn : Func} {tmps : Array Value} {R : Ending → World → Prop} {w : World} {v : Value} (hr : (results fn tmps).run P w = .ok v w) (hR : R (.returned v) w) :
    ∀ (gs : List FuncId) (ds : List Deferred), DF gs ds → gs.all idle = true → Leaves P fn tmps R ds .returning w
  | [], [], _, _ => ⟨v, hr, hR⟩
  | g :: gs, d :: ds, hd, ha => by
    obtain ⟨⟨cap, ht⟩, hd⟩ := hd
    simp only [List.all_cons, Bool.and_eq_true] at ha
    obtain ⟨h1, h2⟩ := hi g ha.1
    refine ⟨by simp, .func g, cap, g, d.args ++ cap, ht, ?_, ?_⟩
    · rw [ht]; simp only [invoke]; exact enters_run h1 _ w
    · refine CallsD.mono (h2 _ w) ?_
      rintro e u' w' ⟨⟨v0, rfl⟩, rfl, rfl⟩
      exact leaves_idle hi hr hR gs ds hd ha.2
  | [], _ :: _, h, _ => h.elim
  | _ :: _, [], h, _ => h.elim
noncomputable def outB (P : Program) (idle : FuncId → Bool) (rs : List ResultVar) (fr : Fr) : Option (Value × T Blk × Nat) :=
  match fr.e with
  | .exit _ => none
  | _ => bif fr.s.df.all idle then
      match resQ P fr.s rs with
      | some l => some (tupleOf l, fr.s.hp, fr.s.nx)
      | none => none
    else none
noncomputable def fnB (P : Program) (idle : FuncId → Bool) (rounds : Nat) (f : FuncId) : Bx (CallE → List Value → T Blk → Nat → Option (Value × T Blk × Nat)) :=
  match P.funcs[f]? with
  | some fn => match fn.body with
    | some c => (codeB P rounds c).on fun g => .yes fun call args hp nx => oB (outB P idle fn.results.toList) (g call ⟨setN .leaf 0 args, args.length + (fn.ntmps - args.length), hp, nx, []⟩)
    | none => .no
  | none => .no
/-- one after the other -/
noncomputable def orB (a b : CallE) : CallE := fun f args hp nx => match a f args hp nx with | some r => some r | none => b f args hp nx
theorem orB_sound {P : Program} {N0 : Nat} {a b : CallE} (ha : CallOK P N0 a) (hb : CallOK P N0 b) : CallOK P N0 (orB a b) := by
  intro f args hp nx v hp' nx' h
  unfold orB at h
  split at h
  · next r hr => cases h; exact ha f args hp nx v hp' nx' hr
  · exact hb f args hp nx v hp' nx' h
noncomputable def callB (P : Program) (idle : FuncId → Bool) (known : CallE) (rounds : Nat) (k : Nat) : CallE :=
  Nat.rec (motive := fun _ => CallE) (fun _ _ _ _ => none) (fun _ ih => orB known fun f args hp nx => (fnB P idle rounds f).run fun g => g ih args hp nx) k
theorem callB_sound {P : Program} {idle : FuncId → Bool} (hi : IdleOK P idle) {known : CallE} {N0 : Nat} (hk : CallOK P N0 known) (rounds : Nat) : ∀ k, CallOK P N0 (callB P idle known rounds k)
  | 0 => fun f args hp nx v hp' nx' h => by cases h
  | k + 1 => orB_sound hk fun f args hp nx v hp' nx' h β w args' I hl => by
    have hcall := callB_sound hi hk rounds k
    obtain ⟨G, hG, h⟩ := run_some (show ((fnB P idle rounds f).run fun g => g (callB P idle known rounds k) args hp nx) = some (v, hp', nx') from h)
    unfold fnB at hG
    split at hG
    next fn hf =>
      split at hG
      next c hb =>
        obtain ⟨g, hg, hG⟩ := on_yes hG
        cases hG
        obtain ⟨fr, hc, h⟩ := oB_some h
        let O : Org := ⟨N0, β, hp, nx, w⟩
        have hsz : (⟨args'⟩ ++ Array.replicate (fn.ntmps - args'.length) undef : Array Value).size = args.length + (fn.ntmps - args.length) := by simp [hl.1]
        have hA : At P O { tm := setN .leaf 0 args, sz := args.length + (fn.ntmps - args.length), hp := hp, nx := nx, df := [] } { tmps := ⟨args'⟩ ++ Array.replicate (fn.ntmps - (⟨args'⟩ : Array Value).size) undef, defers := [] } w := by
          refine ⟨β, Stp.refl I, hsz, fun t u hu => ?_, trivial⟩
          simp only [setN_get, T.get] at hu
          split at hu
          · next ht =>
            have hta : t < args.length := by omega
            rw [Nat.sub_zero] at hu
            obtain ⟨u', k1, k2⟩ := hl.get hu
            refine ⟨u', ?_, k2⟩
            rw [Array.getElem?_append_left (by simpa [← hl.1] using hta)]
            simpa using k1
          · cases hu
        have fin : ∀ (hne : ∀ id, fr.e ≠ .exit id), (bif fr.s.df.all idle then
            match resQ P fr.s fn.results.toList with
            | some l => some (tupleOf l, fr.s.hp, fr.s.nx)
            | none => none
          else none) = some (v, hp', nx') → Calls P f ⟨args'⟩ w fun e w' => ∃ β' v', e = .returned v' ∧ Stp P N0 β hp nx w β' hp' nx' w' ∧ VR β' v v' := by
          intro hne h
          cases ha : fr.s.df.all idle with
          | false => rw [ha] at h; cases h
          | true =>
            rw [ha, cond_true] at h
            split at h
            · next l hres =>
              simp only [Option.some.injEq, Prod.mk.injEq] at h
              obtain ⟨rfl, rfl, rfl⟩ := h
              refine calls_of_wp_defers hf hb (codeB_sound (O := O) hcall rounds c g hg _ fr hc _ _ w hA fun a1 w1 hA1 => ?_)
              obtain ⟨β1, A1⟩ := hA1
              obtain ⟨l', r1, r2⟩ := resQ_sound A1 hres
              have hlv : Leaves P fn a1.tmps (fun e w' => ∃ β' v', e = .returned v' ∧ Stp P N0 β hp nx w β' fr.s.hp fr.s.nx w' ∧ VR β' (tupleOf l) v') a1.defers .returning w1 :=
                leaves_idle hi (results_run r1) ⟨β1, _, rfl, A1.stp, tupleOf_VR r2⟩ fr.s.df a1.defers A1.df ha
              cases he : fr.e with
              | normal => exact hlv
              | ret => exact hlv
              | exit id => exact absurd he (hne id)
            · cases h
        unfold outB at h
        cases he : fr.e with
        | exit id => rw [he] at h; cases h
        | normal => rw [he] at h; exact fin (fun id hx => by rw [he] at hx; cases hx) h
        | ret => rw [he] at h; exact fin (fun id hx => by rw [he] at hx; cases hx) h
      next => cases hG
    next => cases hG
/-- nothing is known beforehand -/
def noB : CallE := fun _ _ _ _ => none
theorem noB_sound {P : Program} {N0 : Nat} : CallOK P N0 noB := fun _ _ _ _ _ _ _ h => by cases h
/-- what a closed call gave -/
noncomputable def gaveK (P : Program) (idle : FuncId → Bool) (known : CallE) (rounds k : Nat) (f : FuncId) : Option Bool :=
  match callB P idle known rounds k f [] .leaf 0 with | some (.bool b, _) => some b | _ => none
noncomputable def gaveB (P : Program) (idle : FuncId → Bool) (rounds k : Nat) (f : FuncId) : Option Bool := gaveK P idle noB rounds k f
/-- A CLOSED CALL: what the evaluator gives is what it returns, in whatever memory, in whatever order -/
theorem closed_known {P : Program} {idle : FuncId → Bool} (hi : IdleOK P idle) {known : CallE} (hk : ∀ N0, CallOK P N0 known) {rounds k : Nat} {f : FuncId} {b : Bool} (h : gaveK P idle known rounds k f = some b) (w : World) :
    Calls P f #[] w fun e w' => e = .returned (.bool b) ∧ Below w.heap.size w w' := by
  unfold gaveK at h
  split at h
  · next b' r hc =>
    cases h
    obtain ⟨hp', nx'⟩ := r
    have I : Inv P (fun _ => none) .leaf 0 w.heap.size w := ⟨(fun n r h => by cases h), (fun n m r q h => by cases h), (fun n r b h => by cases h), Nat.le_refl _, fun _ _ => rfl⟩
    refine Calls.mono (callB_sound hi (hk w.heap.size) rounds k f [] .leaf 0 _ hp' nx' hc _ w [] I VL.nil) ?_
    rintro e w' ⟨β', v', rfl, hs, hv⟩
    exact ⟨by rw [hv.bool_inv], hs.bel⟩
  · cases h
theorem closed_call {P : Program} {idle : FuncId → Bool} (hi : IdleOK P idle) {rounds k : Nat} {f : FuncId} {b : Bool} (h : gaveB P idle rounds k f = some b) (w : World) :
    Calls P f #[] w fun e w' => e = .returned (.bool b) ∧ Below w.heap.size w w' := closed_known hi (fun _ => noB_sound) h w
end Go.Proofs.YthponidjednfbaaGreatDoor.Ev
