/-
  The evaluator: what it says of a region that draws its order.
-/
import Derived.Test.YthponidjednfbaaGreatDoorEv9
namespace Go.Proofs.YthponidjednfbaaGreatDoor.Ev
open RowKit

def unl (L : Array Bool) : Nat → Nat
  | 0 => 0
  | k + 1 => unl L k + (if L.getD k false = true then 0 else 1)
theorem unl_set {L : Array Bool} {i : Nat} (hi : i < L.size) (h : ¬ isL L i) : ∀ k, unl (L.setIfInBounds i true) k + (if i < k then 1 else 0) = unl L k
  | 0 => rfl
  | k + 1 => by
    have ih := unl_set hi h k
    simp only [unl]
    by_cases e : k = i
    · subst e
      have h1 : (L.setIfInBounds k true).getD k false = true := (isL_set hi).2 (.inl rfl)
      have h2 : ¬ L.getD k false = true := h
      rw [if_pos h1, if_neg h2, if_pos (by omega)]
      rw [if_neg (by omega)] at ih
      omega
    · have h1 : ((L.setIfInBounds i true).getD k false = true) ↔ (L.getD k false = true) := ⟨fun h => ((isL_set hi).1 h).resolve_left e, fun h => (isL_set hi).2 (.inr h)⟩
      by_cases hk : L.getD k false = true
      · rw [if_pos (h1.2 hk), if_pos hk]
        by_cases hik : i < k
        · rw [if_pos (by omega)]; rw [if_pos hik] at ih; omega
        · rw [if_neg (by omega)]; rw [if_neg hik] at ih; omega
      · rw [if_neg fun h => hk (h1.1 h), if_neg hk]
        by_cases hik : i < k
        · rw [if_pos (by omega)]; rw [if_pos hik] at ih; omega
        · rw [if_neg (by omega)]; rw [if_neg hik] at ih; omega
theorem unl_zero {L : Array Bool} : ∀ k, unl L k = 0 → ∀ i, i < k → isL L i
  | 0, _, i, hi => by omega
  | k + 1, h, i, hi => by
    simp only [unl] at h
    have h1 : unl L k = 0 := by omega
    by_cases e : i = k
    · subst e
      by_cases hk : L.getD i false = true
      · exact hk
      · rw [if_neg hk] at h; omega
    · exact unl_zero k h1 i (by omega)
section
variable {P : Program} {O : Org} {ops : Array Oper} {tm0 : T Value} {done : List Nat} {res : Nat → Value} {nm : Nat → Option Nat} {s : St} {lds : List (Nat × Ld)} {L : Array Bool} {β : Where} {a : Act} {w : World}
theorem LR.fin (R : LR P O ops tm0 done res nm s lds L β a w) (h : ∀ i ∈ done, isL L i) : At P O s a w := by
  refine ⟨β, R.stp, R.sz, fun t v hv => ?_, R.df⟩
  by_cases hw : ∃ p y, ops[p]? = some y ∧ y.dst = some t ∧ p ∈ done
  · obtain ⟨p, y, e1, e2, e3⟩ := hw
    rw [R.sa p y t e1 e2 e3] at hv
    cases hv
    exact R.ra p y t e1 e2 (h p e3)
  · have hno : ∀ p y, ops[p]? = some y → y.dst = some t → p ∉ done := fun p y e1 e2 e3 => hw ⟨p, y, e1, e2, e3⟩
    rw [R.sb t hno] at hv
    exact R.rb t v (fun p y e1 e2 hp => hno p y e1 e2 (R.sub p hp)) hv
theorem LR.act {call : CallE} (hcall : CallOK P O.N0 call) (hs : ssa ops = true) (R : LR P O ops tm0 done res nm s lds L β a w) {j : Nat} {o : Oper} (hj : ops[j]? = some o) (hr : rdy ops done j = true) (hL : j ∈ Region.ready .any ops L)
    (hw : wantedF ops o s.tm.get = some true) {s' : St} (h : stepV P call s o = some s') (hld : ∀ x ∈ lds.filter (fun x => !ed ops j x.1), ldOK P s'.hp x.2 = true) {K : Act → World → Prop} {Q : Exit → Act → World → Prop}
    (hK : ∀ res' nm' β' a' w', LR P O ops tm0 (j :: done) res' nm' s' (lds.filter fun x => !ed ops j x.1) (L.setIfInBounds j true) β' a' w' → K a' w') : wpOp P ops Q j K a w := by
  obtain ⟨h1, h2, h3⟩ := rdy_spec.1 hr
  obtain ⟨g1, g2, g3⟩ := (ready_spec R.lsz).1 hL
  have hjl : j < L.size := R.lsz ▸ h2
  have hS : ∀ i, isL (L.setIfInBounds j true) i ↔ i = j ∨ isL L i := fun i => isL_set hjl
  have hrv := R.now hs hj hr
  have huse := R.use hs hj hL hrv
  have hO : OR β (evF s.tm.get) a.eval o.op.operands := evF_sound fun t ht v hv => huse t (looks_tmp ht) v hv
  have hwd : Region.wanted o (yielded ops a.tmps) = true := wantedF_sound hw fun j want t hg ht v hv => huse t (looks_guard hg ht) v hv
  unfold wpOp
  simp only [hj]
  rw [if_pos hwd]
  refine .inl ?_
  unfold stepV at h
  split at h
  next v hp nx d hd =>
    refine evDo_sound hcall R.stp.inv hd hO fun β' v' w' df hst hv hP => ?_
    obtain ⟨p1, p2, p3, p4, p5, p6, p7⟩ := put_St h
    simp only at p1 p2 p3 p4 p5
    have hne : ∀ p, p ∈ done → p ≠ j := fun p hp e => h1 (e ▸ hp)
    have hmem : ∀ q l, ¬ isL L q → (q, l) ∈ lds → (q, l) ∈ lds.filter (fun x => !ed ops j x.1) := fun q l hnl hl => by
      rw [List.mem_filter]
      refine ⟨hl, ?_⟩
      cases he : ed ops j q with
      | false => rfl
      | true => exact absurd (g3 q he) hnl
    refine hK (fun p => if p = j then v else res p) (fun p => if p = j then none else nm p) β' _ w' ⟨by rw [p1, p2]; exact R.stp.trans hst, by rw [put_size, p4]; exact R.sz, by rw [put_defers, p3]; exact R.df.put hP, by simpa using R.lsz, fun i hi => ?_, ⟨R.ord, h1, h2, h3⟩, fun i p hi he => ?_, fun p y t c1 c2 c3 => ?_, fun t u hno ht => ?_, fun p y t c1 c2 c3 => ?_, fun t hno => ?_, fun q hq hlq => ?_, fun q q' m hq hq' k1 k2 => ?_, fun q m hq k1 => ?_, hld⟩
    · rcases (hS i).1 hi with rfl | hi
      · exact List.mem_cons_self
      · exact List.mem_cons_of_mem _ (R.sub i hi)
    · rcases (hS i).1 hi with rfl | hi
      · exact (hS p).2 (.inr (g3 p he))
      · exact (hS p).2 (.inr (R.clo i p hi he))
    · by_cases e : p = j
      · subst e
        rw [hj] at c1; cases c1
        rw [if_pos rfl, c2]
        exact ⟨v', put_same (by simp only; rw [R.sz]; exact p5 t c2), hv⟩
      · have c3 : isL L p := by rcases (hS p).1 c3 with h | h; exact absurd h e; exact h
        obtain ⟨u, k1, k2⟩ := R.ra p y t c1 c2 c3
        refine ⟨u, ?_, by rw [if_neg e]; exact k2.mono hst.ext⟩
        rw [put_get (ssa_spec hs hj c1 e c2).1]; exact k1
    · obtain ⟨u', k1, k2⟩ := R.rb t u (fun p y c1 c2 hp => hno p y c1 c2 ((hS p).2 (.inr hp))) ht
      refine ⟨u', ?_, k2.mono hst.ext⟩
      rw [put_get fun e => hno j o hj e ((hS j).2 (.inl rfl))]; exact k1
    · rcases List.mem_cons.1 c3 with rfl | c3
      · rw [hj] at c1; cases c1
        rw [if_pos rfl]; exact p6 t c2
      · have hpj := hne p c3
        rw [if_neg hpj, p7 t (ssa_spec hs hj c1 hpj c2).1]
        exact R.sa p y t c1 c2 c3
    · rw [p7 t fun e => hno j o hj e List.mem_cons_self]
      exact R.sb t fun p y c1 c2 c3 => hno p y c1 c2 (List.mem_cons_of_mem _ c3)
    · rcases List.mem_cons.1 hq with rfl | hq
      · exact absurd ((hS _).2 (.inl rfl)) hlq
      · have hqj := hne q hq
        have hnl : ¬ isL L q := fun h => hlq ((hS q).2 (.inr h))
        refine (R.lag q hq fun h => hlq ((hS q).2 (.inr h))).on (fun p hp => if_neg (hne p (R.ord.clo hq hp))) (if_neg hqj) (if_neg hqj) (fun l hl => hmem q l hnl hl) (fun l hl => hld (q, l) (hmem q l hnl hl)) (by rw [p4]; exact Nat.le_refl _) (by rw [p2]; exact hst.le) fun m _ hm hβ => ?_
        rw [p1]; exact hst.gh m hm hβ
    · rcases List.mem_cons.1 hq with k3 | k3
      · rw [if_pos k3] at k1; cases k1
      · rcases List.mem_cons.1 hq' with k4 | k4
        · rw [if_pos k4] at k2; cases k2
        · rw [if_neg (hne q k3)] at k1; rw [if_neg (hne q' k4)] at k2
          exact R.nmi q q' m k3 k4 k1 k2
    · rcases List.mem_cons.1 hq with k3 | k3
      · rw [if_pos k3] at k1; cases k1
      · rw [if_neg (hne q k3)] at k1
        rw [p2]; exact Nat.lt_of_lt_of_le (R.nlt q m k3 k1) hst.le
  next => cases h
theorem rdys_spec {i : Nat} : i ∈ rdys ops done ↔ rdy ops done i = true := by
  unfold rdys
  rw [List.mem_filter, List.mem_range]
  exact ⟨fun h => h.2, fun h => ⟨(rdy_spec.1 h).2.1, h⟩⟩
theorem LR.rdy_of (R : LR P O ops tm0 done res nm s lds L β a w) {i : Nat} (h : i ∈ Region.ready .any ops L) (hd : i ∉ done) : rdy ops done i = true := by
  obtain ⟨g1, g2, g3⟩ := (ready_spec R.lsz).1 h
  exact rdy_spec.2 ⟨hd, g2, fun p hp => R.sub p (g3 p hp)⟩
theorem LR.ready_of (R : LR P O ops tm0 done res nm s lds L β a w) {i : Nat} (h : rdy ops done i = true) (hall : ∀ i ∈ done, isL L i) : i ∈ Region.ready .any ops L := by
  obtain ⟨g1, g2, g3⟩ := rdy_spec.1 h
  exact (ready_spec R.lsz).2 ⟨fun hl => g1 (R.sub i hl), g2, fun p hp => hall p (g3 p hp)⟩
theorem evAny_end {call : CallE} {k : Nat} {s' : St} (h : evAny P call ops k done lds s = some s') (hno : ∀ i, rdy ops done i = false) : s' = s := by
  have hr : rdys ops done = [] := List.eq_nil_iff_forall_not_mem.2 fun i hi => by rw [rdys_spec, hno i] at hi; cases hi
  cases k with
  | zero => cases h
  | succ k =>
    rw [evAny, hr] at h
    simp only [List.find?_nil, Option.some.injEq] at h
    exact h.symm
theorem Inv.same {P : Program} {β : Where} {hp hp' : T Blk} {nx N0 : Nat} {w : World} (I : Inv P β hp nx N0 w) (h : ∀ n, hp'.get n = hp.get n) : Inv P β hp' nx N0 w :=
  ⟨I.bnd, fun n m r q a b c d e => I.inj n m r q a b (by rw [← h]; exact c) (by rw [← h]; exact d) e, fun n r b c d => I.hr n r b c (by rw [← h]; exact d), I.base, fun n hn => (h n).trans (I.cln n hn)⟩
theorem At.same {s s' : St} (hA : At P O s a w) (h1 : s'.tm = s.tm) (h2 : s'.sz = s.sz) (h3 : s'.nx = s.nx) (h4 : s'.df = s.df) (h : ∀ n, s'.hp.get n = s.hp.get n) : At P O s' a w := by
  obtain ⟨β, A⟩ := hA
  refine ⟨β, ⟨A.stp.ext, by rw [h3]; exact A.stp.le, by rw [h3]; exact A.stp.inv.same h, A.stp.bel, fun n hn hβ => ?_, A.stp.fm.trans ⟨fun _ _ _ => rfl, fun g _ ⟨k, q, g1, g2, g3⟩ => ⟨k, q, g1, by rwa [h] at g2, g3⟩⟩ A.stp.bel.size⟩, by rw [h2]; exact A.sz, by rw [h1]; exact A.tm, by rw [h4]; exact A.df⟩
  obtain ⟨j1, j2⟩ := A.stp.gh n hn hβ
  exact ⟨j1, (h n).trans j2⟩
theorem storeAt_get {hp hp' : T Blk} {n o : Nat} {l : List Value} (h : storeAt hp n o l = some hp') : (∀ m, m ≠ n → hp'.get m = hp.get m) ∧ ∃ cs m t, hp.get n = some (.row cs m t) ∧ hp'.get n = some (.row (setN cs o l) m t) := by
  unfold storeAt at h
  split at h
  · next cs m t hg =>
    cases hb : (Nat.ble (o + l.length) m && l.all one) with
    | false => rw [hb] at h; cases h
    | true =>
      rw [hb] at h
      cases h
      exact ⟨fun m hm => by rw [T.get_set, if_neg hm], cs, m, t, hg, by rw [T.get_set, if_pos rfl]⟩
  · cases h
theorem stepV_store {call : CallE} {o : Oper} {n : Nat} (hn : stOf (evF s.tm.get) o = some n) {s' : St} (h : stepV P call s o = some s') :
    ∃ off l, (∀ s2 : St, s2.tm = s.tm → ∀ s3, stepV P call s2 o = some s3 → ∃ hp3, storeAt s2.hp n off l = some hp3 ∧ s3 = { s2 with hp := hp3 }) ∧ ∃ hp', storeAt s.hp n off l = some hp' ∧ s' = { s with hp := hp' } := by
  unfold stOf at hn
  split at hn
  next t ad x ho hd =>
    split at hn
    next n' off ha =>
      cases hn
      have key : ∀ s2 : St, s2.tm = s.tm → ∀ s3, stepV P call s2 o = some s3 → ∃ v hp3, evF s.tm.get x = some v ∧ storeAt s2.hp n off v.cells.toList = some hp3 ∧ s3 = { s2 with hp := hp3 } := by
        intro s2 e2 s3 h
        unfold stepV evDo at h
        rw [ho, hd, e2] at h
        simp only [ha] at h
        cases hv : evF s.tm.get x with
        | none => rw [hv] at h; cases h
        | some v =>
          rw [hv] at h
          cases hk : sizeOf P t with
          | none => rw [hk] at h; cases h
          | some k =>
            rw [hk] at h
            simp only at h
            cases hb : Nat.beq v.cells.size k with
            | false => rw [hb] at h; cases h
            | true =>
              rw [hb] at h
              simp only [cond_true] at h
              cases hs : storeAt s2.hp n off v.cells.toList with
              | none => rw [hs] at h; cases h
              | some hp3 =>
                rw [hs] at h
                simp only [St.put, addD, Option.some.injEq] at h
                exact ⟨v, hp3, rfl, hs, h.symm.trans (by cases s2; simp at e2; subst e2; rfl)⟩
      obtain ⟨v, hp', hv, hs, e⟩ := key s rfl s' h
      exact ⟨off, v.cells.toList, fun s2 e2 s3 h3 => by
        obtain ⟨v', hp3, hv', hs3, e3⟩ := key s2 e2 s3 h3
        rw [hv] at hv'; cases hv'
        exact ⟨hp3, hs3, e3⟩, hp', hs, e⟩
    next => cases hn
  next => cases hn
theorem evAny_last {call : CallE} {k j : Nat} {o : Oper} (ho : ops[j]? = some o) (hr : rdys ops done = [j]) (hr2 : rdys ops (j :: done) = []) (hw : wantedF ops o s.tm.get = some true) (hk : kind o.op = 2) {s' : St} (h : evAny P call ops k done lds s = some s') :
    stepV P call s o = some s' := by
  cases k with
  | zero => cases h
  | succ k =>
    rw [evAny, hr] at h
    have hl : lagable ops s j = false := by
      unfold lagable
      rw [ho]
      simp only [hk, hw]
      rfl
    simp only [List.find?_cons, hl, List.find?_nil, ho, hw] at h
    split at h
    · next s1 hs =>
      cases hb : (lds.filter fun x => !ed ops j x.1).all (fun x => ldOK P s1.hp x.2) with
      | false => rw [hb] at h; cases h
      | true =>
        rw [hb, cond_true] at h
        rw [evAny_end h fun i => by
          cases hi : rdy ops (j :: done) i with
          | false => rfl
          | true => have := rdys_spec.2 hi; rw [hr2] at this; simp at this]
        exact hs
    · cases h
theorem stOf_kind {ev : Val} {o : Oper} {n : Nat} (h : stOf ev o = some n) : kind o.op = 2 := by
  unfold stOf at h
  split at h
  next ho hd => rw [ho]; rfl
  next => cases h
theorem evAny_main {call : CallE} (hcall : CallOK P O.N0 call) (hs : ssa ops = true) {Q : Exit → Act → World → Prop} :
    ∀ (rf k : Nat) (done : List Nat) (lds : List (Nat × Ld)) (s s' : St) (res : Nat → Value) (nm : Nat → Option Nat) (L : Array Bool) (β : Where) (a : Act) (w : World), (∀ a w, At P O s' a w → Q .normal a w) →
      LR P O ops tm0 done res nm s lds L β a w → unl L ops.size ≤ rf → evAny P call ops k done lds s = some s' → wpAny P .any ops Q rf L a w := by
  intro rf
  induction rf with
  | zero =>
    intro k done lds s s' res nm L β a w hQ R hu h
    have hall := unl_zero ops.size (by omega : unl L ops.size = 0)
    have hr : Region.ready .any ops L = [] := List.eq_nil_iff_forall_not_mem.2 fun i hi => by
      obtain ⟨g1, g2, _⟩ := (ready_spec R.lsz).1 hi
      exact g1 (hall i g2)
    refine ⟨hr, hQ a w ?_⟩
    rw [evAny_end h fun i => by
      cases hr : rdy ops done i with
      | false => rfl
      | true => obtain ⟨g1, g2, _⟩ := rdy_spec.1 hr; exact absurd (R.sub i (hall i g2)) g1]
    exact R.fin fun i hi => hall i (by
      have : ∀ (l : List Nat), Ord ops l → i ∈ l → i < ops.size := fun l => by
        induction l with
        | nil => intro _ h; simp at h
        | cons x l ih => intro ho h; rcases List.mem_cons.1 h with rfl | h; exact ho.2.2.1; exact ih ho.1 h
      exact this done R.ord hi)
  | succ rf ih =>
    intro k done lds s s' res nm L β a w hQ R hu h
    refine ⟨fun hr => ?_, ?_⟩
    · have hall : ∀ i ∈ done, isL L i := fun i hi => Classical.byContradiction fun hc => by
        obtain ⟨q, h1, h2, h3⟩ := R.ord.first ⟨i, hi, hc⟩
        have hql : q < ops.size := by
          have : ∀ (l : List Nat), Ord ops l → q ∈ l → q < ops.size := fun l => by
            induction l with
            | nil => intro _ h; simp at h
            | cons x l ih => intro ho h; rcases List.mem_cons.1 h with rfl | h; exact ho.2.2.1; exact ih ho.1 h
          exact this done R.ord h1
        have : q ∈ Region.ready .any ops L := (ready_spec R.lsz).2 ⟨h2, hql, h3⟩
        rw [hr] at this; simp at this
      have hno : ∀ i, rdy ops done i = false := fun i => by
        cases hri : rdy ops done i with
        | false => rfl
        | true => have := R.ready_of hri hall; rw [hr] at this; simp at this
      apply hQ
      rw [evAny_end h hno]
      exact R.fin hall
    · induction k generalizing done lds s res nm with
      | zero => cases h
      | succ k ihk =>
        intro i hi
        have dec : unl (L.setIfInBounds i true) ops.size ≤ rf := by
          obtain ⟨g1, g2, _⟩ := (ready_spec R.lsz).1 hi
          have := unl_set (R.lsz ▸ g2) g1 ops.size
          rw [if_pos g2] at this
          omega
        by_cases hid : i ∈ done
        · exact lag_wp hs R hid hi fun β' a' w' R' => ih (k + 1) done lds s s' res nm _ β' a' w' hQ R' dec h
        · have hir := R.rdy_of hi hid
          have h0 := h
          rw [evAny] at h
          split at h
          · next q hq =>
            have hqr : rdy ops done q = true := rdys_spec.1 (List.mem_of_find?_eq_some hq)
            split at h
            · next o ho =>
              split at h
              · next s1 ld hl =>
                cases hc : (ld.map (q, ·) ++ lds).all (fun x => ldOK P s1.hp x.2) with
                | false => rw [hc] at h; cases h
                | true =>
                  rw [hc, cond_true] at h
                  obtain ⟨res', nm', R'⟩ := R.ahead hs ho hqr hl (List.all_eq_true.1 hc)
                  exact ihk (q :: done) (ld.map (q, ·) ++ lds) s1 res' nm' R' h i hi
              · cases h
            · cases h
          · split at h
            · next hn => have := rdys_spec.2 hir; rw [hn] at this; simp at this
            · next j hn =>
              have hij : i = j := by have := rdys_spec.2 hir; rw [hn] at this; simpa using this
              subst hij
              split at h
              · next o ho =>
                split at h
                · next hw =>
                  split at h
                  · next s1 hst =>
                    cases hc : (lds.filter fun x => !ed ops i x.1).all (fun x => ldOK P s1.hp x.2) with
                    | false => rw [hc] at h; cases h
                    | true =>
                      rw [hc, cond_true] at h
                      exact R.act hcall hs ho hir hi hw hst (List.all_eq_true.1 hc) fun res' nm' β' a' w' R' => ih k (i :: done) _ s1 s' res' nm' _ β' a' w' hQ R' dec h
                  · cases h
                · cases h
              · cases h
            · next j1 j2 hn =>
              split at h
              · next o1 o2 ho1 ho2 =>
                split at h
                · next n1 n2 s1 s2 hn1 hn2 hw1 hw2 hs1 hs2 =>
                  cases hc : (!Nat.beq n1 n2 && rdys ops (j1 :: done) == [j2] && rdys ops (j2 :: done) == [j1] && rdys ops (j2 :: j1 :: done) == [] && rdys ops (j1 :: j2 :: done) == [] &&
              (lds.filter fun x => !ed ops j1 x.1).all (fun x => ldOK P s1.hp x.2) && (lds.filter fun x => !ed ops j2 x.1).all (fun x => ldOK P s2.hp x.2)) with
                  | false => rw [hc] at h; cases h
                  | true =>
                    rw [hc, cond_true] at h
                    simp only [Bool.and_eq_true, Bool.not_eq_true', beq_iff_eq] at hc
                    obtain ⟨⟨⟨⟨⟨⟨c1, c2⟩, c3⟩, c4⟩, c5⟩, c6⟩, c7⟩ := hc
                    have hne : n1 ≠ n2 := fun e => by rw [beq_t e] at c1; cases c1
                    split at h
                    · next sA sB hA hB =>
                      cases h
                      obtain ⟨off1, l1, u1, hp1, st1, rfl⟩ := stepV_store hn1 hs1
                      obtain ⟨off2, l2, u2, hp2, st2, rfl⟩ := stepV_store hn2 hs2
                      have lA := evAny_last ho2 c2 c4 (by exact hw2) (stOf_kind hn2) hA
                      have lB := evAny_last ho1 c3 c5 (by exact hw1) (stOf_kind hn1) hB
                      obtain ⟨hp12, st12, eA⟩ := u2 { s with hp := hp1 } rfl _ lA
                      obtain ⟨hp21, st21, eB⟩ := u1 { s with hp := hp2 } rfl _ lB
                      obtain ⟨g1, cs1, m1, t1, g2, g3⟩ := storeAt_get st1
                      obtain ⟨g4, cs2, m2, t2, g5, g6⟩ := storeAt_get st2
                      obtain ⟨g7, cs3, m3, t3, g8, g9⟩ := storeAt_get st12
                      obtain ⟨g10, cs4, m4, t4, g11, g12⟩ := storeAt_get st21
                      have hget : ∀ n, hp12.get n = hp21.get n := fun n => by
                        by_cases e1 : n = n1
                        · subst e1
                          rw [g7 _ hne, g3, g12]
                          simp only at g11
                          rw [g4 _ hne, g2] at g11
                          cases g11; rfl
                        · by_cases e2 : n = n2
                          · subst e2
                            rw [g9, g10 _ e1, g6]
                            simp only at g8
                            rw [g1 _ e1, g5] at g8
                            cases g8; rfl
                          · rw [g7 _ e2, g10 _ e1]
                            simp only
                            rw [g1 _ e1, g4 _ e2]
                      have hmem := rdys_spec.2 hir
                      rw [hn] at hmem
                      rcases List.mem_cons.1 hmem with rfl | hmem
                      · exact R.act hcall hs ho1 hir hi hw1 hs1 (List.all_eq_true.1 c6) fun res' nm' β' a' w' R' => ih k (i :: done) _ _ _ res' nm' _ β' a' w' hQ R' dec hA
                      · have : i = j2 := by simpa using hmem
                        subst this
                        refine R.act hcall hs ho2 hir hi hw2 hs2 (List.all_eq_true.1 c7) fun res' nm' β' a' w' R' => ih k (i :: done) _ _ _ res' nm' _ β' a' w' (fun a w hAt => hQ a w ?_) R' dec hB
                        rw [eB] at hAt
                        rw [eA]
                        exact hAt.same rfl rfl rfl rfl hget
                    · cases h
                · cases h
              · cases h
            · cases h
end
theorem unl_rep (n : Nat) : ∀ k, k ≤ n → unl (Array.replicate n false) k = k
  | 0, _ => rfl
  | k + 1, h => by
    have := unl_rep n k (by omega)
    have hf : (Array.replicate n false).getD k false = false := by
      simp only [Array.getD_eq_getD_getElem?, Array.getElem?_replicate]
      split <;> rfl
    simp only [unl, this, hf]
    simp
theorem evAny_sound {P : Program} {O : Org} {ops : Array Oper} {call : CallE} (hcall : CallOK P O.N0 call) (hs : ssa ops = true) (hm : P.follows .mixedOrders = true) {k : Nat} {s s' : St} {a : Act} {w : World} (hA : At P O s a w)
    (h : evAny P call ops k [] [] s = some s') {Q : Exit → Act → World → Prop} (hQ : ∀ a w, At P O s' a w → Q .normal a w) (id : Nat) : (Code.region id ops true).wp P Q a w := by
  refine wp_region_any hm ?_
  obtain ⟨β, A⟩ := hA
  have hemp : ∀ i, ¬ isL (Array.replicate ops.size false) i := fun i h => by
    unfold isL at h
    simp only [Array.getD_eq_getD_getElem?, Array.getElem?_replicate] at h
    split at h <;> simp at h
  refine evAny_main hcall hs ops.size k [] [] s s' (fun _ => undef) (fun _ => none) _ β a _ hQ (tm0 := s.tm) ⟨?_, A.sz, A.df, by simp, fun i hi => absurd hi (hemp i), trivial, fun i p hi => absurd hi (hemp i), fun p y t _ _ hp => absurd hp (hemp p), fun t v _ hv => A.tm t v hv, fun p y t _ _ hp => by simp at hp, fun t _ => rfl, fun q hq => by simp at hq, fun q q' m hq => by simp at hq, fun q m hq => by simp at hq, fun l hl => by simp at hl⟩ (by rw [unl_rep _ _ (Nat.le_refl _)]; exact Nat.le_refl _) h
  exact ⟨A.stp.ext, A.stp.le, A.stp.inv.drew, ⟨A.stp.bel.os, A.stp.bel.tape, A.stp.bel.output, A.stp.bel.size, A.stp.bel.block⟩, A.stp.gh, ⟨A.stp.fm.fr, A.stp.fm.fp⟩⟩
end Go.Proofs.YthponidjednfbaaGreatDoor.Ev
