/-
  The evaluator: regions that draw their order, whatever order it is.
-/
import Derived.Test.YthponidjednfbaaGreatDoorEv8
namespace Go.Proofs.YthponidjednfbaaGreatDoor.Ev
open RowKit

def Ord (ops : Array Oper) : List Nat → Prop
  | [] => True
  | q :: l => Ord ops l ∧ q ∉ l ∧ q < ops.size ∧ ∀ p, ed ops q p = true → p ∈ l
theorem Ord.clo {ops : Array Oper} : ∀ {l : List Nat}, Ord ops l → ∀ {q p : Nat}, q ∈ l → ed ops q p = true → p ∈ l
  | [], _, q, p, hq, _ => by simp at hq
  | x :: l, h, q, p, hq, he => by
    rcases List.mem_cons.1 hq with rfl | hq
    · exact List.mem_cons_of_mem _ (h.2.2.2 p he)
    · exact List.mem_cons_of_mem _ (h.1.clo hq he)
theorem Ord.first {ops : Array Oper} {L : Array Bool} : ∀ {l : List Nat}, Ord ops l → (∃ q ∈ l, ¬ isL L q) → ∃ q ∈ l, ¬ isL L q ∧ ∀ p, ed ops q p = true → isL L p
  | [], _, ⟨q, hq, _⟩ => by simp at hq
  | x :: l, h, ⟨q, hq, hn⟩ => by
    by_cases hl : ∃ q ∈ l, ¬ isL L q
    · obtain ⟨q', h1, h2⟩ := h.1.first hl
      exact ⟨q', List.mem_cons_of_mem _ h1, h2⟩
    · have hall : ∀ p ∈ l, isL L p := fun p hp => Classical.byContradiction fun hc => hl ⟨p, hp, hc⟩
      rcases List.mem_cons.1 hq with rfl | hq
      · exact ⟨q, List.mem_cons_self, hn, fun p hp => hall p (h.2.2.2 p hp)⟩
      · exact absurd (hall q hq) hn
def RV (ops : Array Oper) (tm0 : T Value) (res : Nat → Value) (q : Nat) (o : Oper) (f : Nat → Option Value) : Prop :=
  ∀ t ∈ o.looksAt ops, (∀ p y, ops[p]? = some y → y.dst = some t → p ≠ q → ed ops q p = true → f t = some (res p)) ∧
    ((∀ p y, ops[p]? = some y → y.dst = some t → p ≠ q → ed ops q p = false) → f t = tm0.get t)
def LagOK (P : Program) (O : Org) (ops : Array Oper) (tm0 : T Value) (res : Nat → Value) (nm : Nat → Option Nat) (s : St) (lds : List (Nat × Ld)) (β : Where) (q : Nat) : Prop :=
  ∃ o f, ops[q]? = some o ∧ RV ops tm0 res q o f ∧ (∀ d, o.dst = some d → d < s.sz) ∧
    ((wantedF ops o f = some false ∧ res q = undef ∧ nm q = none) ∨
     (wantedF ops o f = some true ∧ nm q = none ∧ evQ P (evF f) s.hp o = some (res q) ∧ ∀ l ∈ ldOf (evF f) o (res q), (q, l) ∈ lds) ∨
     (wantedF ops o f = some true ∧ ∃ cs ty sh m, evM P (evF f) o = some (cs, ty, sh) ∧ nm q = some m ∧ res q = mkV sh m ∧ O.nx ≤ m ∧ m < s.nx ∧ β m = none ∧
       s.hp.get m = some (.row (setN .leaf 0 cs) cs.length ty) ∧ cs.length ≤ 1000000))
structure LR (P : Program) (O : Org) (ops : Array Oper) (tm0 : T Value) (done : List Nat) (res : Nat → Value) (nm : Nat → Option Nat) (s : St) (lds : List (Nat × Ld)) (L : Array Bool) (β : Where) (a : Act) (w : World) : Prop where
  stp : Stp P O.N0 O.β O.hp O.nx O.w β s.hp s.nx w
  sz : a.tmps.size = s.sz
  df : DF s.df a.defers
  lsz : L.size = ops.size
  sub : ∀ i, isL L i → i ∈ done
  ord : Ord ops done
  clo : ∀ i p, isL L i → ed ops i p = true → isL L p
  ra : ∀ p y t, ops[p]? = some y → y.dst = some t → isL L p → ∃ v', a.tmps[t]? = some v' ∧ VR β (res p) v'
  rb : ∀ t v, (∀ p y, ops[p]? = some y → y.dst = some t → ¬ isL L p) → tm0.get t = some v → ∃ v', a.tmps[t]? = some v' ∧ VR β v v'
  sa : ∀ p y t, ops[p]? = some y → y.dst = some t → p ∈ done → s.tm.get t = some (res p)
  sb : ∀ t, (∀ p y, ops[p]? = some y → y.dst = some t → p ∉ done) → s.tm.get t = tm0.get t
  lag : ∀ q ∈ done, ¬ isL L q → LagOK P O ops tm0 res nm s lds β q
  nmi : ∀ q q' m, q ∈ done → q' ∈ done → nm q = some m → nm q' = some m → q = q'
  nlt : ∀ q m, q ∈ done → nm q = some m → m < s.nx
  lds : ∀ x ∈ lds, ldOK P s.hp x.2 = true
theorem looks_tmp {ops : Array Oper} {o : Oper} {t : Tmp} (h : Operand.tmp t ∈ o.op.operands) : t ∈ o.looksAt ops :=
  List.mem_append_left _ (List.mem_filterMap.2 ⟨.tmp t, by simpa using h, rfl⟩)
theorem looks_guard {ops : Array Oper} {o : Oper} {t : Tmp} {j : Nat} {want : Bool} (h : o.guard = some (j, want)) (hd : (ops[j]?).bind (·.dst) = some t) : t ∈ o.looksAt ops := by
  refine List.mem_append_right _ ?_
  rw [h]
  simp [hd]
section
variable {P : Program} {O : Org} {ops : Array Oper} {tm0 : T Value} {done : List Nat} {res : Nat → Value} {nm : Nat → Option Nat} {s : St} {lds : List (Nat × Ld)} {L : Array Bool} {β : Where} {a : Act} {w : World}
theorem LR.use (hs : ssa ops = true) (R : LR P O ops tm0 done res nm s lds L β a w) {q : Nat} {o : Oper} {f : Nat → Option Value} (hq : ops[q]? = some o) (hr : q ∈ Region.ready .any ops L) (hv : RV ops tm0 res q o f) :
    ∀ t ∈ o.looksAt ops, ∀ v, f t = some v → ∃ v', a.tmps[t]? = some v' ∧ VR β v v' := by
  intro t ht v hf
  obtain ⟨h1, h2, h3⟩ := (ready_spec R.lsz).1 hr
  obtain ⟨g1, g2⟩ := hv t ht
  by_cases h : ∃ p y, ops[p]? = some y ∧ y.dst = some t ∧ p ≠ q ∧ ed ops q p = true
  · obtain ⟨p, y, e1, e2, e3, e4⟩ := h
    rw [g1 p y e1 e2 e3 e4] at hf
    cases hf
    exact R.ra p y t e1 e2 (h3 p e4)
  · have hno : ∀ p y, ops[p]? = some y → y.dst = some t → p ≠ q → ed ops q p = false := fun p y e1 e2 e3 => by
      cases he : ed ops q p with
      | false => rfl
      | true => exact absurd ⟨p, y, e1, e2, e3, he⟩ h
    rw [g2 hno] at hf
    refine R.rb t v (fun p y e1 e2 hp => ?_) hf
    by_cases e : p = q
    · subst e; exact h1 hp
    · rcases (ssa_spec hs hq e1 e e2).2 ht with h4 | h4
      · rw [hno p y e1 e2 e] at h4; cases h4
      · exact h1 (R.clo p q hp h4)
theorem LR.now (hs : ssa ops = true) (R : LR P O ops tm0 done res nm s lds L β a w) {i : Nat} {o : Oper} (hi : ops[i]? = some o) (hr : rdy ops done i = true) : RV ops tm0 res i o s.tm.get := by
  intro t ht
  obtain ⟨h1, h2, h3⟩ := rdy_spec.1 hr
  refine ⟨fun p y e1 e2 e3 e4 => R.sa p y t e1 e2 (h3 p e4), fun hno => R.sb t fun p y e1 e2 hp => ?_⟩
  by_cases e : p = i
  · subst e; exact h1 hp
  · rcases (ssa_spec hs hi e1 e e2).2 ht with h4 | h4
    · rw [hno p y e1 e2 e] at h4; cases h4
    · exact h1 (R.ord.clo hp h4)
theorem put_get {a : Act} {d : Option Tmp} {v : Value} {t : Nat} (h : d ≠ some t) : (a.put d v).tmps[t]? = a.tmps[t]? := by
  cases d with
  | none => rfl
  | some d => exact Array.getElem?_setIfInBounds_ne (fun e => h (by rw [e]))
theorem put_same {a : Act} {v : Value} {t : Nat} (h : t < a.tmps.size) : (a.put (some t) v).tmps[t]? = some v := by simp [Act.put, h]
theorem put_size {a : Act} {d : Option Tmp} {v : Value} : (a.put d v).tmps.size = a.tmps.size := by cases d <;> simp [Act.put]
theorem put_defers {a : Act} {d : Option Tmp} {v : Value} : (a.put d v).defers = a.defers := by cases d <;> rfl
/-- the region does what it lagged behind with -/
theorem LR.real (hs : ssa ops = true) (R : LR P O ops tm0 done res nm s lds L β a w) {q : Nat} {o : Oper} (hq : ops[q]? = some o) (hqd : q ∈ done) (hr : q ∈ Region.ready .any ops L) {β' : Where} {w' : World} {v' : Value}
    (hx : Ext β β') (hst : Stp P O.N0 O.β O.hp O.nx O.w β' s.hp s.nx w') (hv : VR β' (res q) v') (hd : ∀ d, o.dst = some d → d < s.sz) (hn : ∀ m, β m = none → nm q ≠ some m → β' m = none) :
    LR P O ops tm0 done res nm s lds (L.setIfInBounds q true) β' (a.put o.dst v') w' := by
  obtain ⟨h1, h2, h3⟩ := (ready_spec R.lsz).1 hr
  have hql : q < L.size := R.lsz ▸ h2
  have hS : ∀ j, isL (L.setIfInBounds q true) j ↔ j = q ∨ isL L j := fun j => isL_set hql
  refine ⟨hst, by rw [put_size]; exact R.sz, by rw [put_defers]; exact R.df, by simpa using R.lsz, fun i hi => ?_, R.ord, fun i p hi he => ?_, fun p y t e1 e2 hp => ?_, fun t v hno ht => ?_, R.sa, R.sb, fun q' hq' hl' => ?_, R.nmi, R.nlt, R.lds⟩
  · rcases (hS i).1 hi with rfl | hi
    · exact hqd
    · exact R.sub i hi
  · rcases (hS i).1 hi with rfl | hi
    · exact (hS p).2 (.inr (h3 p he))
    · exact (hS p).2 (.inr (R.clo i p hi he))
  · by_cases e : p = q
    · subst e
      rw [hq] at e1; cases e1
      rw [e2]
      exact ⟨v', put_same (by rw [R.sz]; exact hd t e2), hv⟩
    · have hp : isL L p := by rcases (hS p).1 hp with h | h; exact absurd h e; exact h
      obtain ⟨u, k1, k2⟩ := R.ra p y t e1 e2 hp
      refine ⟨u, ?_, k2.mono hx⟩
      rw [put_get (ssa_spec hs hq e1 e e2).1]; exact k1
  · obtain ⟨u, k1, k2⟩ := R.rb t v (fun p y e1 e2 hp => hno p y e1 e2 ((hS p).2 (.inr hp))) ht
    refine ⟨u, ?_, k2.mono hx⟩
    rw [put_get fun e => hno q o hq e ((hS q).2 (.inl rfl))]; exact k1
  · have hne : q' ≠ q := fun e => hl' ((hS q').2 (.inl e))
    obtain ⟨o', f, k1, k2, k2', k3⟩ := R.lag q' hq' fun h => hl' ((hS q').2 (.inr h))
    refine ⟨o', f, k1, k2, k2', ?_⟩
    rcases k3 with k3 | k3 | ⟨k3, cs, ty, sh, m, c1, c2, c3, c4, c5, c6, c7⟩
    · exact .inl k3
    · exact .inr (.inl k3)
    · exact .inr (.inr ⟨k3, cs, ty, sh, m, c1, c2, c3, c4, c5, hn m c6 fun e => hne (R.nmi q' q m hq' hqd c2 e), c7⟩)
theorem lag_wp (hs : ssa ops = true) (R : LR P O ops tm0 done res nm s lds L β a w) {q : Nat} (hqd : q ∈ done) (hr : q ∈ Region.ready .any ops L) {K : Act → World → Prop} {Q : Exit → Act → World → Prop}
    (hK : ∀ β' a' w', LR P O ops tm0 done res nm s lds (L.setIfInBounds q true) β' a' w' → K a' w') : wpOp P ops Q q K a w := by
  obtain ⟨h1, h2, h3⟩ := (ready_spec R.lsz).1 hr
  obtain ⟨o, f, hq, hrv, hd, hcase⟩ := R.lag q hqd h1
  have huse := R.use hs hq hr hrv
  have hO : OR β (evF f) a.eval o.op.operands := evF_sound fun t ht v hv => huse t (looks_tmp ht) v hv
  have hw : ∀ b, wantedF ops o f = some b → Region.wanted o (yielded ops a.tmps) = b := fun b hb => wantedF_sound hb fun j want t hg ht v hv => huse t (looks_guard hg ht) v hv
  unfold wpOp
  simp only [hq]
  rcases hcase with ⟨k1, k2, k3⟩ | ⟨k1, k2, k3, _⟩ | ⟨k1, cs, ty, sh, m, c1, c2, c3, c4, c5, c6, c7, c8⟩
  · rw [if_neg (by rw [hw _ k1]; simp)]
    exact hK β _ w (R.real hs hq hqd hr (Ext.refl _) R.stp (by rw [k2]; exact undef_VR β) hd fun m hm _ => hm)
  · rw [if_pos (hw _ k1)]
    refine .inl ?_
    obtain ⟨v', e1, e2⟩ := evQ_sound R.stp.inv k3 hO
    unfold Oper.wp
    rw [e1]
    exact hK β _ w (R.real hs hq hqd hr (Ext.refl _) R.stp e2 hd fun m hm _ => hm)
  · rw [if_pos (hw _ k1)]
    refine .inl ?_
    obtain ⟨cs', e1, e2⟩ := evM_sound c1 hO w
    obtain ⟨i1, i2⟩ := R.stp.inv.made c5 c6 c7 (fun i hi => by rw [setN_get, if_pos ⟨by omega, by omega⟩, Nat.sub_zero]) (by unfold maxLen; omega) e1
    have hst : Stp P O.N0 O.β O.hp O.nx O.w (β.upd m (w.heap.size, 0)) s.hp s.nx (w.alloc (.cells ⟨cs'⟩ ty)) :=
      ⟨R.stp.ext.trans i2, R.stp.le, i1, R.stp.bel.trans ((Below.refl _ _).alloc R.stp.inv.base _), fun n hn hβ => by
        obtain ⟨j1, j2⟩ := R.stp.gh n hn hβ
        exact ⟨by unfold Where.upd; rw [if_neg (by omega)]; exact j1, j2⟩, R.stp.fm.trans (Frm.new (fun _ _ _ _ h => h) (.inl (Nat.le_refl _)) (fun g hg _ => Below.heap_alloc w _ _ hg)) R.stp.bel.size⟩
    unfold Oper.wp
    rw [e2]
    refine hK _ _ _ (R.real hs hq hqd hr i2 hst (by rw [c3]; exact mkV_VR (by unfold Where.upd; rw [if_pos rfl]) sh) hd fun m' hm hne => ?_)
    unfold Where.upd
    rw [if_neg (fun e => hne (by rw [c2, e]))]
    exact hm
theorem evQ_hp {ev : Val} {hp hp' : T Blk} {o : Oper} {v : Value} (h : evQ P ev hp o = some v) (hl : ∀ l ∈ ldOf ev o v, ldOK P hp' l = true) : evQ P ev hp' o = some v := by
  unfold evQ at h ⊢
  unfold ldOf at hl
  split at h
  · next t x ho =>
    unfold evL at h ⊢
    rw [ho] at h hl ⊢
    simp only at h hl ⊢
    split at h
    · next n off ha =>
      rw [ha] at hl
      have := hl _ List.mem_cons_self
      unfold ldOK at this
      simp only at this
      split at this
      · next u hu => rw [hu, veq_eq this]
      · cases this
    · cases h
  · exact h
/-- what lags, while the evaluator goes on -/
theorem LagOK.on {res' : Nat → Value} {nm' : Nat → Option Nat} {s' : St} {lds' : List (Nat × Ld)} {β' : Where} {q : Nat} (h : LagOK P O ops tm0 res nm s lds β q) (h1 : ∀ p, ed ops q p = true → res' p = res p) (h2 : res' q = res q) (h3 : nm' q = nm q)
    (h4 : ∀ l, (q, l) ∈ lds → (q, l) ∈ lds') (h5 : ∀ l, (q, l) ∈ lds → ldOK P s'.hp l = true) (h6 : s.sz ≤ s'.sz) (h7 : s.nx ≤ s'.nx) (h8 : ∀ m, nm q = some m → m < s.nx → β m = none → β' m = none ∧ s'.hp.get m = s.hp.get m) :
    LagOK P O ops tm0 res' nm' s' lds' β' q := by
  obtain ⟨o, f, k1, k2, k2', k3⟩ := h
  refine ⟨o, f, k1, fun t ht => ⟨fun p y e1 e2 e3 e4 => by rw [h1 p e4]; exact (k2 t ht).1 p y e1 e2 e3 e4, (k2 t ht).2⟩, fun d hd => Nat.lt_of_lt_of_le (k2' d hd) h6, ?_⟩
  rw [h2, h3]
  rcases k3 with k3 | ⟨c1, c2, c3, c4⟩ | ⟨k3, cs, ty, sh, m, c1, c2, c3, c4, c5, c6, c7, c8⟩
  · exact .inl k3
  · exact .inr (.inl ⟨c1, c2, evQ_hp c3 fun l hl => h5 l (c4 l hl), fun l hl => h4 l (c4 l hl)⟩)
  · obtain ⟨d1, d2⟩ := h8 m c2 c5 c6
    exact .inr (.inr ⟨k3, cs, ty, sh, m, c1, c2, c3, c4, Nat.lt_of_lt_of_le c5 h7, d1, d2.trans c7, c8⟩)
theorem put_St {s s' : St} {dst : Option Tmp} {v : Value} (h : s.put dst v = some s') : s'.hp = s.hp ∧ s'.nx = s.nx ∧ s'.df = s.df ∧ s'.sz = s.sz ∧ (∀ d, dst = some d → d < s.sz) ∧
    (∀ t, dst = some t → s'.tm.get t = some v) ∧ (∀ t, dst ≠ some t → s'.tm.get t = s.tm.get t) := by
  unfold St.put at h
  cases dst with
  | none => cases h; exact ⟨rfl, rfl, rfl, rfl, (fun d h => by cases h), (fun d h => by cases h), fun _ _ => rfl⟩
  | some d =>
    simp only at h
    cases hb : Nat.blt d s.sz with
    | false => rw [hb] at h; cases h
    | true =>
      rw [hb, cond_true] at h
      cases h
      refine ⟨rfl, rfl, rfl, rfl, fun d' h => by cases h; exact Nat.le_of_ble_eq_true hb, fun t h => by cases h; rw [T.get_set, if_pos rfl], fun t h => ?_⟩
      rw [T.get_set, if_neg fun e => h (by rw [e])]
/-- the evaluator goes ahead by one -/
theorem LR.ahead (hs : ssa ops = true) (R : LR P O ops tm0 done res nm s lds L β a w) {i : Nat} {o : Oper} (hi : ops[i]? = some o) (hr : rdy ops done i = true) {s' : St} {ld : List Ld} (hl : lagDo P ops s o = some (s', ld))
    (hld : ∀ x ∈ ld.map (i, ·) ++ lds, ldOK P s'.hp x.2 = true) : ∃ res' nm', LR P O ops tm0 (i :: done) res' nm' s' (ld.map (i, ·) ++ lds) L β a w := by
  obtain ⟨h1, h2, h3⟩ := rdy_spec.1 hr
  have hiL : ¬ isL L i := fun h => h1 (R.sub i h)
  have hrv := R.now hs hi hr
  -- what all three ways share
  have go : ∀ (s0 : St) (v : Value) (nmi : Option Nat), s0.put o.dst v = some s' → s0.tm = s.tm → s0.sz = s.sz → s0.df = s.df → s.nx ≤ s0.nx →
      Stp P O.N0 O.β O.hp O.nx O.w β s0.hp s0.nx w → (∀ m, m < s.nx → s0.hp.get m = s.hp.get m) → (∀ m, nmi = some m → s.nx ≤ m ∧ m < s0.nx) →
      LagOK P O ops tm0 (fun p => if p = i then v else res p) (fun p => if p = i then nmi else nm p) s' (ld.map (i, ·) ++ lds) β i → ∃ res' nm', LR P O ops tm0 (i :: done) res' nm' s' (ld.map (i, ·) ++ lds) L β a w := by
    intro s0 v nmi hput e1 e2 e3 e4 hst hgh hnm hlag
    obtain ⟨p1, p2, p3, p4, p5, p6, p7⟩ := put_St hput
    have hne : ∀ p, p ∈ done → p ≠ i := fun p hp e => h1 (e ▸ hp)
    refine ⟨fun p => if p = i then v else res p, fun p => if p = i then nmi else nm p, ⟨by rw [p1, p2]; exact hst, by rw [p4, e2]; exact R.sz, by rw [p3, e3]; exact R.df, R.lsz, fun j hj => List.mem_cons_of_mem _ (R.sub j hj), ⟨R.ord, h1, h2, h3⟩, R.clo, fun p y t c1 c2 c3 => ?_, R.rb, fun p y t c1 c2 c3 => ?_, fun t hno => ?_, fun q hq hlq => ?_, fun q q' m hq hq' g1 g2 => ?_, fun q m hq g1 => ?_, hld⟩⟩
    · rw [if_neg (hne p (R.sub p c3))]; exact R.ra p y t c1 c2 c3
    · rcases List.mem_cons.1 c3 with rfl | c3
      · rw [hi] at c1; cases c1
        rw [if_pos rfl]; exact p6 t c2
      · have hpi := hne p c3
        rw [if_neg hpi, p7 t (ssa_spec hs hi c1 hpi c2).1, e1]
        exact R.sa p y t c1 c2 c3
    · rw [p7 t fun e => hno i o hi e List.mem_cons_self, e1]
      exact R.sb t fun p y c1 c2 c3 => hno p y c1 c2 (List.mem_cons_of_mem _ c3)
    · rcases List.mem_cons.1 hq with rfl | hq
      · exact hlag
      · have hqi := hne q hq
        refine (R.lag q hq hlq).on (fun p hp => if_neg (hne p (R.ord.clo hq hp))) (if_neg hqi) (if_neg hqi) (fun l hl => List.mem_append_right _ hl) (fun l hl => hld (q, l) (List.mem_append_right _ hl)) (by rw [p4, e2]; exact Nat.le_refl _) (by rw [p2]; exact e4) fun m _ hm hβ => ⟨hβ, by rw [p1]; exact hgh m hm⟩
    · rcases List.mem_cons.1 hq with k1 | k1 <;> rcases List.mem_cons.1 hq' with k2 | k2
      · rw [k1, k2]
      · rw [if_pos k1] at g1; rw [if_neg (hne q' k2)] at g2
        have := hnm m g1; have := R.nlt q' m k2 g2; omega
      · rw [if_neg (hne q k1)] at g1; rw [if_pos k2] at g2
        have := hnm m g2; have := R.nlt q m k1 g1; omega
      · rw [if_neg (hne q k1)] at g1; rw [if_neg (hne q' k2)] at g2
        exact R.nmi q q' m k1 k2 g1 g2
    · rw [p2]
      rcases List.mem_cons.1 hq with rfl | hq
      · rw [if_pos rfl] at g1; exact (hnm m g1).2
      · rw [if_neg (hne q hq)] at g1; exact Nat.lt_of_lt_of_le (R.nlt q m hq g1) e4
  have hrv' : ∀ v, RV ops tm0 (fun p => if p = i then v else res p) i o s.tm.get := fun v t ht => ⟨fun p y c1 c2 c3 c4 => by show _ = some (if p = i then v else res p); rw [if_neg c3]; exact (hrv t ht).1 p y c1 c2 c3 c4, (hrv t ht).2⟩
  unfold lagDo at hl
  split at hl
  · next hw =>
    split at hl
    · next s1 hput =>
      simp only [Option.some.injEq, Prod.mk.injEq] at hl
      obtain ⟨rfl, rfl⟩ := hl
      obtain ⟨p1, p2, p3, p4, p5, p6, p7⟩ := put_St hput
      exact go s undef none hput rfl rfl rfl (Nat.le_refl _) R.stp (fun _ _ => rfl) (fun m h => by cases h) ⟨o, s.tm.get, hi, hrv' _, fun d hd => by rw [p4]; exact p5 d hd, .inl ⟨hw, if_pos rfl, if_pos rfl⟩⟩
    · cases hl
  · next hw =>
    cases hk : Nat.beq (kind o.op) 1 with
    | true =>
      rw [hk, cond_true] at hl
      split at hl
      · next cs ty sh hm =>
        cases hb : Nat.ble cs.length 1000000 with
        | false => rw [hb] at hl; cases hl
        | true =>
          rw [hb, cond_true] at hl
          split at hl
          · next s1 hput =>
            simp only [Option.some.injEq, Prod.mk.injEq] at hl
            obtain ⟨rfl, rfl⟩ := hl
            obtain ⟨p1, p2, p3, p4, p5, p6, p7⟩ := put_St hput
            simp only at p1 p2 p4
            have hnone : β s.nx = none := by
              cases h : β s.nx with
              | none => rfl
              | some r => exact absurd (R.stp.inv.bnd s.nx r h).1 (by omega)
            refine go _ (mkV sh s.nx) (some s.nx) hput rfl rfl rfl (by simp) ?_ (fun m hm => ?_) (fun m h => by cases h; exact ⟨Nat.le_refl _, by simp⟩) ⟨o, s.tm.get, hi, hrv' _, fun d hd => by rw [p4]; exact p5 d hd, .inr (.inr ⟨hw, cs, ty, sh, s.nx, hm, if_pos rfl, if_pos rfl, R.stp.le, by rw [p2]; omega, hnone, ?_, Nat.le_of_ble_eq_true hb⟩)⟩
            · refine ⟨R.stp.ext, Nat.le_trans R.stp.le (by simp), R.stp.inv.keep _, R.stp.bel, fun n hn hβ => ?_, R.stp.fm.trans ⟨fun _ _ _ => rfl, fun g hg ⟨k, q, g1, g2, g3⟩ => ⟨k, q, g1, by
                have := (R.stp.inv.bnd k q g1).1
                rwa [T.get_set, if_neg (by omega)] at g2, g3⟩⟩ R.stp.bel.size⟩
              obtain ⟨j1, j2⟩ := R.stp.gh n hn hβ
              refine ⟨j1, ?_⟩
              have := R.stp.le
              rw [T.get_set, if_neg (by omega)]; exact j2
            · simp only
              rw [T.get_set, if_neg (by omega)]
            · rw [p1, T.get_set, if_pos rfl]
          · cases hl
      · cases hl
    | false =>
      rw [hk, cond_false] at hl
      split at hl
      · next v hq =>
        split at hl
        · next s1 hput =>
          simp only [Option.some.injEq, Prod.mk.injEq] at hl
          obtain ⟨rfl, rfl⟩ := hl
          obtain ⟨p1, p2, p3, p4, p5, p6, p7⟩ := put_St hput
          refine go s v none hput rfl rfl rfl (Nat.le_refl _) R.stp (fun _ _ => rfl) (fun m h => by cases h) ⟨o, s.tm.get, hi, hrv' _, fun d hd => by rw [p4]; exact p5 d hd, .inr (.inl ⟨hw, if_pos rfl, ?_, fun l hl => ?_⟩)⟩
          · simp only [if_true]; rw [p1]; exact hq
          · simp only [if_true] at hl; exact List.mem_append_left _ (List.mem_map.2 ⟨l, hl, rfl⟩)
        · cases hl
      · cases hl
  · cases hl
end
end Go.Proofs.YthponidjednfbaaGreatDoor.Ev
