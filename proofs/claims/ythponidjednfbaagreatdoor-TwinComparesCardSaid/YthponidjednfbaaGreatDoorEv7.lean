/-
  The evaluator: regions whose order is given; what a state is.
-/
import Derived.Test.YthponidjednfbaaGreatDoorEv6
import Derived.Tactics
namespace Go.Proofs.YthponidjednfbaaGreatDoor.Ev
open RowKit

structure St where
  tm : T Value
  sz : Nat
  hp : T Blk
  nx : Nat
  df : List FuncId
def evF (f : Nat → Option Value) : Val
  | .tmp t => f t
  | .const v => bif flat v then some v else none
  | .func g => some (.func (.func g) #[] #[])
  | .global _ => none
def St.put (s : St) (dst : Option Tmp) (v : Value) : Option St :=
  match dst with
  | some d => bif Nat.blt d s.sz then some { s with tm := s.tm.set (some v) d } else none
  | none => some s
def wantedF (ops : Array Oper) (o : Oper) (f : Nat → Option Value) : Option Bool :=
  match o.guard with
  | none => some true
  | some (j, want) => match (ops[j]?).bind (·.dst) with
    | some t => match f t with
      | some (.bool b) => some (b == want)
      | some _ => some false
      | none => none
    | none => some false
/-- where a call's walk began -/
structure Org where
  N0 : Nat
  β : Where
  hp : T Blk
  nx : Nat
  w : World
def DF : List FuncId → List Deferred → Prop
  | [], [] => True
  | g :: l, d :: ds => (∃ cap, d.target = .fn (.func g) cap) ∧ DF l ds
  | _, _ => False
def addD (d : Option FuncId) (l : List FuncId) : List FuncId := match d with | some g => g :: l | none => l
def boolOf : Value → Option Bool | .bool b => some b | _ => none
structure AtB (P : Program) (O : Org) (s : St) (β : Where) (a : Act) (w : World) : Prop where
  stp : Stp P O.N0 O.β O.hp O.nx O.w β s.hp s.nx w
  sz : a.tmps.size = s.sz
  tm : ∀ t v, s.tm.get t = some v → ∃ v', a.tmps[t]? = some v' ∧ VR β v v'
  df : DF s.df a.defers
def At (P : Program) (O : Org) (s : St) (a : Act) (w : World) : Prop := ∃ β, AtB P O s β a w
/-- operands, by what temporaries are -/
theorem evF_sound {β : Where} {f : Nat → Option Value} {a : Act} {xs : Array Operand} (h : ∀ t, Operand.tmp t ∈ xs → ∀ v, f t = some v → ∃ v', a.tmps[t]? = some v' ∧ VR β v v') : OR β (evF f) a.eval xs := by
  intro x hx v hv
  cases x with
  | tmp t =>
    obtain ⟨v', h1, h2⟩ := h t hx v hv
    have : a.eval (.tmp t) = v' := by simp [Act.eval, Array.getD_eq_getD_getElem?, h1]
    rw [this]; exact h2
  | const c =>
    cases hf : flat c with
    | false => simp [evF, hf] at hv
    | true => simp [evF, hf] at hv; subst hv; exact flat_refl 5 hf
  | func g => cases hv; exact .func rfl (fun i v v' h => by simp at h) rfl (fun i v v' h => by simp at h)
  | global g => cases hv
theorem wantedF_sound {β : Where} {f : Nat → Option Value} {a : Act} {ops : Array Oper} {o : Oper} {b : Bool} (hw : wantedF ops o f = some b)
    (h : ∀ j want t, o.guard = some (j, want) → (ops[j]?).bind (·.dst) = some t → ∀ v, f t = some v → ∃ v', a.tmps[t]? = some v' ∧ VR β v v') : Region.wanted o (yielded ops a.tmps) = b := by
  unfold wantedF at hw
  unfold Region.wanted
  cases hg : o.guard with
  | none => rw [hg] at hw; cases hw; rfl
  | some p =>
    obtain ⟨j, want⟩ := p
    rw [hg] at hw
    simp only at hw ⊢
    cases hd : (ops[j]?).bind (·.dst) with
    | none => rw [hd] at hw; cases hw; simp [yielded, hd]
    | some t =>
      rw [hd] at hw
      simp only at hw
      cases hf : f t with
      | none => rw [hf] at hw; cases hw
      | some v =>
        rw [hf] at hw
        obtain ⟨v', h1, h2⟩ := h j want t hg hd v hf
        have hy : yielded ops a.tmps j = boolOf v' := by
          unfold yielded
          rw [hd, Option.bind_some, h1]
          cases v' <;> rfl
        rw [hy]
        cases h2 <;> first | (cases hw; rfl) | skip
        next ha => cases v <;> first | (cases hw; rfl) | (simp [Ev.atom] at ha)
/-- a temporary is set -/
theorem put_at {β : Where} {s s' : St} {dst : Option Tmp} {v v' : Value} {a : Act} (hp : s.put dst v = some s') (hsz : a.tmps.size = s.sz) (htm : ∀ t v, s.tm.get t = some v → ∃ v', a.tmps[t]? = some v' ∧ VR β v v') (hv : VR β v v') :
    (a.put dst v').tmps.size = s'.sz ∧ (∀ t u, s'.tm.get t = some u → ∃ u', (a.put dst v').tmps[t]? = some u' ∧ VR β u u') ∧ s'.hp = s.hp ∧ s'.nx = s.nx ∧ s'.df = s.df ∧ (a.put dst v').defers = a.defers := by
  unfold St.put at hp
  cases dst with
  | none => cases hp; exact ⟨hsz, htm, rfl, rfl, rfl, rfl⟩
  | some d =>
    simp only at hp
    cases hb : Nat.blt d s.sz with
    | false => rw [hb] at hp; cases hp
    | true =>
      rw [hb, cond_true] at hp
      cases hp
      have hb := Nat.lt_of_lt_of_eq (Nat.le_of_ble_eq_true hb) hsz.symm
      refine ⟨by simp [Act.put, hsz], fun t u hu => ?_, rfl, rfl, rfl, rfl⟩
      rw [T.get_set] at hu
      by_cases e : t = d
      · subst e; rw [if_pos rfl] at hu; cases hu
        exact ⟨v', by simp [Act.put, hb], hv⟩
      · rw [if_neg e] at hu
        obtain ⟨u', h1, h2⟩ := htm t u hu
        exact ⟨u', by simp [Act.put, Array.getElem?_setIfInBounds_ne (Ne.symm e), h1], h2⟩
/-- one operation, and its value laid -/
def stepV (P : Program) (call : CallE) (s : St) (o : Oper) : Option St :=
  match evDo P call (evF s.tm.get) s.hp s.nx o with
  | some (v, hp, nx, d) => St.put { s with hp := hp, nx := nx, df := addD d s.df } o.dst v
  | none => none
theorem DF.put {l : List FuncId} {ds ds' : List Deferred} {d : Option FuncId} (h : DF l ds) (hp : Put d ds ds') : DF (addD d l) ds' := by
  rcases hp with ⟨rfl, rfl⟩ | ⟨g, dd, cap, rfl, ht, rfl⟩
  · exact h
  · exact ⟨⟨cap, ht⟩, h⟩
theorem stepV_sound {P : Program} {O : Org} {call : CallE} (hcall : CallOK P O.N0 call) {s s' : St} {a : Act} {w : World} (hA : At P O s a w) {o : Oper} (h : stepV P call s o = some s') {K : Act → World → Prop} {Q : Exit → Act → World → Prop}
    (hK : ∀ a' w', At P O s' a' w' → K a' w') : o.wp P a w K Q := by
  obtain ⟨β, A⟩ := hA
  unfold stepV at h
  split at h
  next v hp nx d hd =>
    refine evDo_sound hcall A.stp.inv hd (evF_sound fun t _ v hv => A.tm t v hv) fun β' v' w' df hS hv hP => ?_
    obtain ⟨h1, h2, h3, h4, h5, h6⟩ := put_at (β := β') (a := { a with defers := df }) h A.sz (fun t u hu => let ⟨u', a, b⟩ := A.tm t u hu; ⟨u', a, b.mono hS.ext⟩) hv
    refine hK _ _ ⟨β', ⟨?_, h1, h2, ?_⟩⟩
    · rw [h3, h4]; exact A.stp.trans hS
    · rw [h5, h6]; exact A.df.put hP
  next => cases h
def evSeq (P : Program) (call : CallE) (ops : Array Oper) : List Oper → St → Option St
  | [], s => some s
  | o :: rest, s => match wantedF ops o s.tm.get with
    | some true => match stepV P call s o with
      | some s' => evSeq P call ops rest s'
      | none => none
    | some false => match s.put o.dst undef with
      | some s' => evSeq P call ops rest s'
      | none => none
    | none => none
theorem At.skip {P : Program} {O : Org} {s s' : St} {a : Act} {w : World} (hA : At P O s a w) {dst : Option Tmp} (h : s.put dst undef = some s') : At P O s' (a.put dst undef) w := by
  obtain ⟨β, A⟩ := hA
  obtain ⟨h1, h2, h3, h4, h5, h6⟩ := put_at (β := β) h A.sz A.tm (undef_VR β)
  exact ⟨β, by rw [h3, h4]; exact A.stp, h1, h2, by rw [h5, h6]; exact A.df⟩
theorem At.wanted {P : Program} {O : Org} {s : St} {a : Act} {w : World} (hA : At P O s a w) {ops : Array Oper} {o : Oper} {b : Bool} (h : wantedF ops o s.tm.get = some b) : Region.wanted o (yielded ops a.tmps) = b := by
  obtain ⟨β, A⟩ := hA
  exact wantedF_sound h fun _ _ t _ _ v hv => A.tm t v hv
theorem evSeq_sound {P : Program} {O : Org} {call : CallE} (hcall : CallOK P O.N0 call) {ops : Array Oper} {Q : Exit → Act → World → Prop} {s' : St} (hQ : ∀ a w, At P O s' a w → Q .normal a w) :
    ∀ (l : List Oper) (s : St) (a : Act) (w : World), At P O s a w → evSeq P call ops l s = some s' → wpList P ops Q l a w
  | [], s, a, w, hA, h => by cases h; exact hQ a w hA
  | o :: rest, s, a, w, hA, h => by
    rw [evSeq] at h
    unfold wpList
    split at h
    · next hw =>
      rw [if_pos (hA.wanted hw)]
      split at h
      · next s1 hs => exact .inl (stepV_sound hcall hA hs fun a' w' hA' => evSeq_sound hcall hQ rest s1 a' w' hA' h)
      · cases h
    · next hw =>
      rw [if_neg (by rw [hA.wanted hw]; simp)]
      split at h
      · next s1 hs => exact evSeq_sound hcall hQ rest s1 _ w (hA.skip hs) h
      · cases h
    · cases h
end Go.Proofs.YthponidjednfbaaGreatDoor.Ev
