/-
  Calls that are known beforehand: a builder's check.
-/
import Derived.Test.YthponidjednfbaaGreatDoorEvD
namespace Go.Proofs.YthponidjednfbaaGreatDoor.Ev
open RowKit

theorem rowAt_mono {P : Program} {fits : TypeId → Bool} {d : Nat} {e : TypeId} {c c' off n : Nat} (hc : c ≤ c') (h : rowAt P fits d e c off n = true) : rowAt P fits d e c' off n = true := by
  cases d with
  | zero => exact h
  | succ d =>
    unfold rowAt at h ⊢
    simp only at h ⊢
    by_cases hs : P.cellsOf e = 0
    · rw [if_pos hs] at h; cases h
    · rw [if_neg hs] at h ⊢
      rw [Bool.or_eq_true] at h ⊢
      rcases h with h | h
      · left
        simp only [Bool.and_eq_true, decide_eq_true_eq] at h ⊢
        exact ⟨⟨h.1.1, Nat.le_trans h.1.2 hc⟩, h.2⟩
      · right
        rw [Bool.and_eq_true] at h ⊢
        exact ⟨decide_eq_true (Nat.lt_of_lt_of_le (of_decide_eq_true h.1) hc), h.2⟩
theorem liesAt_mono {P : Program} : ∀ {d : Nat} {e : TypeId} {c c' off : Nat} {u : TypeId} {n : Nat}, c ≤ c' → liesAt P d e c off u n = true → liesAt P d e c' off u n = true
  | 0, _, _, _, _, _, _, _, h => h
  | d + 1, e, c, c', off, u, n, hc, h => by
    unfold liesAt at h ⊢
    rw [Bool.or_eq_true] at h ⊢
    rcases h with h | h
    · exact .inl (rowAt_mono hc h)
    · right
      split at h
      · next m u' hu => exact liesAt_mono hc h
      · cases h
/-- what a builder's check does -/
structure CheckOK (P : Program) (cc : FuncId) (bty : TypeId) : Prop where
  used : ∀ (b : Nat) (w : World), w.cell? ⟨b, 0, none⟩ = some (.pointer (some ⟨b, 0, none⟩)) → Calls P cc #[.pointer (some ⟨b, 0, none⟩)] w fun e w' => e = .returned (.tuple #[]) ∧ w = w'
  fresh : ∀ (b : Nat) (T : TypeId) (n : Nat) (w : World), w.shape? b = some (T, n) → 0 < n → liesAt P P.depth T (n / P.cellsOf T) 0 bty 1 = true → w.cell? ⟨b, 0, none⟩ = some (.pointer none) → w.frozen? ⟨b, 0, none⟩ = false →
    Calls P cc #[.pointer (some ⟨b, 0, none⟩)] w fun e w' => e = .returned (.tuple #[]) ∧ w.setCell ⟨b, 0, none⟩ (.pointer (some ⟨b, 0, none⟩)) = w'
noncomputable def checkQ (P : Program) (cc : FuncId) (bty : TypeId) : CallE := fun f args hp nx =>
  Bool.rec none (match args with
    | [.pointer (some ⟨n, 0, none⟩)] => match hp.get n with
      | some (.row cs m ty) => match cs.get 0 with
        | some (.pointer none) => bif liesAt P P.depth ty (m / P.cellsOf ty) 0 bty 1 && Nat.ble 1 m then
            (match storeAt hp n 0 [.pointer (some ⟨n, 0, none⟩)] with
            | some hp' => some (.tuple #[], hp', nx)
            | none => none) else none
        | some (.pointer (some ⟨n', 0, none⟩)) => bif Nat.beq n n' && Nat.ble 1 m then some (.tuple #[], hp, nx) else none
        | _ => none
      | _ => none
    | _ => none) (Nat.beq f cc)
theorem checkQ_sound {P : Program} {cc : FuncId} {bty : TypeId} (H : CheckOK P cc bty) (N0 : Nat) : CallOK P N0 (checkQ P cc bty) := by
  intro f args hp nx v hp' nx' h β w args' I hl
  obtain ⟨hf, h'⟩ := boolRec_some (show (Bool.rec none _ (Nat.beq f cc) : Option (Value × T Blk × Nat)) = some (v, hp', nx') from h)
  replace h := h'
  obtain rfl := Nat.eq_of_beq_eq_true hf
  split at h
  next n =>
    have h1 := hl.1
    match args', h1 with
    | [p], _ =>
      obtain ⟨r, hr, rfl⟩ := (hl.2 0 _ _ rfl rfl).ptr_inv
      split at h
      next cs m ty hb =>
        obtain ⟨cs', c1, c2, c3, c4⟩ := I.hr n r _ hr hb
        split at h
        next hc =>
          cases hbb : (liesAt P P.depth ty (m / P.cellsOf ty) 0 bty 1 && Nat.ble 1 m) with
          | false => rw [hbb] at h; cases h
          | true =>
            rw [hbb, cond_true] at h
            simp only [Bool.and_eq_true] at hbb
            have hm := Nat.le_of_ble_eq_true hbb.2
            split at h
            next hp1 hs =>
              simp only [Option.some.injEq, Prod.mk.injEq] at h
              obtain ⟨rfl, rfl, rfl⟩ := h
              obtain ⟨w', q1, q2, q3, q4⟩ := store_sound I hs hr (l' := [.pointer (some ⟨r.1, 0, none⟩)]) (VL.cons (VR.ptr hr) VL.nil)
              obtain ⟨x, x', d1, d2, d3⟩ := c4 0 (by omega)
              rw [hc] at d1
              cases d1
              rw [d3.ptr_none] at d2
              have e0 : w.cell? ⟨r.1, 0, none⟩ = some (.pointer none) := by simp [World.cell?, c1, d2]
              have ef : w.frozen? ⟨r.1, 0, none⟩ = false := by simp [World.frozen?, c1]
              have hw : w.setCell ⟨r.1, 0, none⟩ (.pointer (some ⟨r.1, 0, none⟩)) = w' := by
                have h0 : (store (⟨r.1, 0, none⟩ : Addr) (.pointer (some ⟨r.1, 0, none⟩))).run P w = .ok () (w.setCell ⟨r.1, 0, none⟩ (.pointer (some ⟨r.1, 0, none⟩))) := by
                  rw [run_store _ w _ _ _ rfl]; simp [e0, ef]
                simp only [storeCells, add_off, Nat.add_zero, Sem.run_bind, h0, Result.andThen_ok, Sem.run_pure, Result.ok.injEq, true_and] at q1
                exact q1
              refine Calls.mono (H.fresh r.1 ty cs'.size w (by simp [World.shape?, c1]) (by omega) (liesAt_mono (Nat.div_le_div_right (by omega)) hbb.1) e0 ef) ?_
              rintro e w2 ⟨rfl, rfl⟩
              rw [hw]
              exact ⟨β, _, rfl, ⟨Ext.refl _, Nat.le_refl _, q2, q3, fun k _ hk => ⟨hk, by
                unfold storeAt at hs
                rw [hb] at hs
                simp only at hs
                cases hcc : (Nat.ble (0 + [Value.pointer (some ⟨n, 0, none⟩)].length) m && [Value.pointer (some ⟨n, 0, none⟩)].all one) with
                | false => rw [hcc] at hs; cases hs
                | true =>
                  rw [hcc] at hs
                  cases hs
                  rw [T.get_set, if_neg]
                  intro e; rw [e, hr] at hk; cases hk⟩, q4⟩, VL.nil.tuple⟩
            next => cases h
        next n' hc =>
          cases hbb : (Nat.beq n n' && Nat.ble 1 m) with
          | false => rw [hbb] at h; cases h
          | true =>
            rw [hbb, cond_true] at h
            simp only [Bool.and_eq_true] at hbb
            obtain rfl := Nat.eq_of_beq_eq_true hbb.1
            have hm := Nat.le_of_ble_eq_true hbb.2
            simp only [Option.some.injEq, Prod.mk.injEq] at h
            obtain ⟨rfl, rfl, rfl⟩ := h
            obtain ⟨x, x', d1, d2, d3⟩ := c4 0 (by omega)
            rw [hc] at d1
            cases d1
            obtain ⟨r', hr', rfl⟩ := d3.ptr_inv
            rw [hr] at hr'
            cases hr'
            refine Calls.mono (H.used r.1 w (by simp [World.cell?, c1, d2])) ?_
            rintro e w2 ⟨rfl, rfl⟩
            exact ⟨β, _, rfl, Stp.refl I, VL.nil.tuple⟩
        next => cases h
      next => cases h
  next => cases h
/-- what a builder's String leaves: its row may now be shared with a string -/
structure Frozen (g : Option Nat) (w w' : World) : Prop where
  os : w'.os = w.os
  tape : w'.tape = w.tape
  output : w'.output = w.output
  size : w.heap.size ≤ w'.heap.size
  block : ∀ k, k < w.heap.size → g ≠ some k → w'.heap[k]? = w.heap[k]?
  row : ∀ k cs ty fz, g = some k → w.heap[k]? = some (.cells cs ty fz) → ∃ fz', w'.heap[k]? = some (.cells cs ty fz')
structure TextOK (P : Program) (tc : FuncId) (u8 : TypeId) : Prop where
  empty : ∀ (b : Nat) (w : World), w.cell? ⟨b, 1, none⟩ = some (.slice none 0 0) → Calls P tc #[.pointer (some ⟨b, 0, none⟩)] w fun e w' => e = .returned (.string .empty) ∧ Frozen none w w'
  full : ∀ (b g cap : Nat) (l : List UInt8) (cur : Array Value) (w : World), l ≠ [] → l.length ≤ 1000000 → w.cell? ⟨b, 1, none⟩ = some (.slice (some ⟨g, 0, none⟩) l.length cap) → l.length ≤ cap → w.heap[g]? = some (.cells cur u8 (0, 0)) → b ≠ g → l.length ≤ cur.size →
    (∀ (j : Nat) (x : UInt8), l[j]? = some x → cur[j]? = some (Value.int .u8 x.toNat)) →
    Calls P tc #[.pointer (some ⟨b, 0, none⟩)] w fun e w' => e = .returned (.string ⟨l.toArray⟩) ∧ Frozen (some g) w w'
/-- the bytes of cells -/
def bytesOf : List Value → Option (List UInt8)
  | [] => some []
  | .int .u8 b :: l => match bytesOf l with
    | some r => bif decide (0 ≤ b) && decide (b < 256) then some (b.toNat.toUInt8 :: r) else none
    | none => none
  | _ => none
theorem bytesOf_get : ∀ {l : List Value} {r : List UInt8}, bytesOf l = some r → r.length = l.length ∧ ∀ (j : Nat) (x : UInt8), r[j]? = some x → l[j]? = some (Value.int .u8 x.toNat)
  | [], r, h => by cases h; exact ⟨rfl, fun j x hx => by simp at hx⟩
  | v :: l, r, h => by
    unfold bytesOf at h
    split at h
    · next e => cases e
    · next b l' e =>
      cases e
      split at h
      · next r' hr =>
        obtain ⟨h1, h2⟩ := bytesOf_get hr
        cases hb : (decide (0 ≤ b) && decide (b < 256)) with
        | false => rw [hb] at h; cases h
        | true =>
          rw [hb] at h
          cases h
          simp only [Bool.and_eq_true, decide_eq_true_eq] at hb
          refine ⟨by simp [h1], fun j x hx => ?_⟩
          match j with
          | 0 =>
            simp only [List.getElem?_cons_zero, Option.some.injEq] at hx
            subst hx
            have : b.toNat.toUInt8.toNat = b.toNat := by
              show (UInt8.ofNat b.toNat).toNat = _
              rw [UInt8.toNat_ofNat']
              exact Nat.mod_eq_of_lt (by omega)
            rw [this, Int.toNat_of_nonneg hb.1]
            rfl
          | j + 1 => simpa using h2 j x (by simpa using hx)
      · cases h
    · cases h
def roOf (u8 : TypeId) : Blk → Option Blk
  | .row cs m ty => bif Nat.beq ty u8 then some (.ro cs m) else none
  | .ro _ _ => none
  | .map _ => none
noncomputable def textQ (tc : FuncId) (u8 : TypeId) : CallE := fun f args hp nx =>
  Bool.rec none (match args with
    | [.pointer (some ⟨n, 0, none⟩)] => match rdOf hp n with
      | some (cs, m) => bif Nat.ble 2 m then
          match cs.get 1 with
          | some (.slice none 0 0) => some (.string .empty, hp, nx)
          | some (.slice (some ⟨a, 0, none⟩) len cap) =>
            bif Nat.ble 1 len && Nat.ble len 1000000 && Nat.ble len cap && !(Nat.beq n a) then
              match rowOf hp a 0 len, (hp.get a).bind (roOf u8) with
              | some l, some b => match bytesOf l with
                | some bs => some (.string ⟨bs.toArray⟩, hp.set (some b) a, nx)
                | none => none
              | _, _ => none
            else none
          | _ => none
        else none
      | none => none
    | _ => none) (Nat.beq f tc)
theorem Frozen.below {N0 : Nat} {g : Option Nat} {w w' : World} (h : Frozen g w w') (hb : N0 ≤ w.heap.size) (hg : ∀ k, g = some k → N0 ≤ k) : Below N0 w w' :=
  ⟨h.os, h.tape, h.output, h.size, fun k hk => h.block k (by omega) (fun e => by have := hg k e; omega)⟩
theorem textQ_sound {P : Program} {tc : FuncId} {u8 : TypeId} (H : TextOK P tc u8) (N0 : Nat) : CallOK P N0 (textQ tc u8) := by
  intro f args hp nx v hp' nx' h β w args' I hl
  obtain ⟨hf, h'⟩ := boolRec_some (show (Bool.rec none _ (Nat.beq f tc) : Option (Value × T Blk × Nat)) = some (v, hp', nx') from h)
  replace h := h'
  obtain rfl := Nat.eq_of_beq_eq_true hf
  split at h
  next n =>
    have h1 := hl.1
    match args', h1 with
    | [p], _ =>
      obtain ⟨r, hr, rfl⟩ := (hl.2 0 _ _ rfl rfl).ptr_inv
      split at h
      next cs m hrd =>
        cases hm : Nat.ble 2 m with
        | false => rw [hm] at h; cases h
        | true =>
          rw [hm, cond_true] at h
          have hm := Nat.le_of_ble_eq_true hm
          have hrd0 := hrd
          unfold rdOf at hrd
          cases hbk : hp.get n with
          | none => rw [hbk] at hrd; cases hrd
          | some bk =>
            rw [hbk] at hrd
            obtain ⟨cs', ty, z, c1, c2, c3⟩ := (I.hr n r _ hr hbk).read hrd
            obtain ⟨x, x', d1, d2, d3⟩ := c3 1 (by omega)
            split at h
            next hc =>
              rw [hc] at d1; cases d1
              rw [d3.sl_none] at d2
              simp only [Option.some.injEq, Prod.mk.injEq] at h
              obtain ⟨rfl, rfl, rfl⟩ := h
              refine Calls.mono (H.empty r.1 w (by simp [World.cell?, c1, d2])) ?_
              rintro e w2 ⟨rfl, hz⟩
              refine ⟨β, _, rfl, ⟨Ext.refl _, Nat.le_refl _, ?_, hz.below I.base (fun k hk => by cases hk), fun _ _ hk => ⟨hk, rfl⟩, Frm.at (fun _ h => h) (fun g hg _ => hz.block g hg (by simp))⟩, VR.atom rfl⟩
              exact I.upd I.cln (Ext.refl _) (Nat.le_refl _) hz.size (fun n r h => .inl h) I.inj (fun n' r' b' q1 q2 => .inl ⟨q1, q2, hz.block _ (I.bnd n' r' q1).2.2 (by simp)⟩)
            next a len cap hc =>
              rw [hc] at d1; cases d1
              obtain ⟨ra, hra, rfl⟩ := d3.sl_inv
              cases hbb : (Nat.ble 1 len && Nat.ble len 1000000 && Nat.ble len cap && !(Nat.beq n a)) with
              | false => rw [hbb] at h; cases h
              | true =>
                rw [hbb, cond_true] at h
                simp only [Bool.and_eq_true, Bool.not_eq_true'] at hbb
                obtain ⟨⟨⟨e1, e2⟩, e3⟩, e4⟩ := hbb
                have e1 := Nat.le_of_ble_eq_true e1
                have e2 := Nat.le_of_ble_eq_true e2
                have e3 := Nat.le_of_ble_eq_true e3
                split at h
                next l b hro hbo =>
                  split at h
                  next bs hbs =>
                    simp only [Option.some.injEq, Prod.mk.injEq] at h
                    obtain ⟨rfl, rfl, rfl⟩ := h
                    obtain ⟨g1, g2⟩ := bytesOf_get hbs
                    obtain ⟨l', k1, k2, k3⟩ := rowOf_sound I hro hra
                    have hlen : bs.length = len := by rw [g1, ← k2, k1.1]
                    cases hba : hp.get a with
                    | none => rw [hba] at hbo; cases hbo
                    | some ba =>
                      rw [hba] at hbo
                      simp only [Option.bind_some] at hbo
                      obtain ⟨cur, f1, f2⟩ : ∃ (cur : Array Value), w.heap[ra.1]? = some (.cells cur u8 (0, 0)) ∧ ∀ w' fz', w'.heap[ra.1]? = some (.cells cur u8 fz') → BR P β b ra w' := by
                        cases ba with
                        | map es => cases hbo
                        | ro cs2 m2 => cases hbo
                        | row cs2 m2 ty2 =>
                          replace hbo : (bif Nat.beq ty2 u8 then some (Blk.ro cs2 m2) else none) = some b := hbo
                          cases hty : Nat.beq ty2 u8 with
                          | false => rw [hty] at hbo; cases hbo
                          | true =>
                            rw [hty] at hbo
                            cases hbo
                            obtain rfl := Nat.eq_of_beq_eq_true hty
                            obtain ⟨cur, y1, y2, y3, y4⟩ := I.hr a ra _ hra hba
                            exact ⟨cur, y1, fun w' fz' hw => ⟨cur, ty2, fz', hw, by omega, y4⟩⟩
                      have hcell : ∀ j u, l'[j]? = some u → cur[j]? = some u := fun j u hu => by
                        have := k3 j u hu
                        rw [add_off, Nat.zero_add] at this
                        simpa [World.cell?, f1] using this
                      have hne : n ≠ a := fun e => by rw [beq_t e] at e4; cases e4
                      have hg : r.1 ≠ ra.1 := fun e => hne (I.inj n a r ra hr hra (by rw [hbk]; simp) (by rw [hba]; simp) e)
                      have hbyte : ∀ j (x : UInt8), bs[j]? = some x → cur[j]? = some (Value.int .u8 x.toNat) := fun j x hx => by
                        obtain ⟨u', q1, q2⟩ := k1.get (g2 j x hx)
                        rw [hcell j u' q1, q2.of_atom rfl]
                      have hcur : bs.length ≤ cur.size := by
                        rcases Nat.eq_zero_or_pos bs.length with h0 | h0
                        · omega
                        · have hj : bs.length - 1 < bs.length := by omega
                          have := hbyte _ _ (List.getElem?_eq_getElem hj)
                          have := (Array.getElem?_eq_some_iff.1 this).1
                          omega
                      refine Calls.mono (H.full r.1 ra.1 (cap + ra.2) bs cur w (fun e => by rw [e] at hlen; simp at hlen; omega) (by omega) (by rw [hlen]; simp [World.cell?, c1, d2]) (by omega) f1 hg hcur hbyte) ?_
                      rintro e w2 ⟨rfl, hz⟩
                      obtain ⟨fz', hz'⟩ := hz.row ra.1 cur u8 (0, 0) rfl f1
                      refine ⟨β, _, rfl, ⟨Ext.refl _, Nat.le_refl _, ?_, hz.below I.base (fun k hk => by cases hk; exact (I.bnd a ra hra).2.1), fun k _ hk => ⟨hk, ?_⟩, Frm.at (fun k hk => by
                        rw [T.get_set] at hk; split at hk
                        · next e => rw [e, hba]; simp
                        · exact hk) (fun g hg hn => hz.block g hg (fun e => hn ⟨a, ra, hra, by rw [hba]; simp, by cases e; rfl⟩))⟩, VR.atom rfl⟩
                      · refine I.upd (I.cln_set hra _) (Ext.refl _) (Nat.le_refl _) hz.size (fun n r h => .inl h) (fun n' m' r' q' ha hb' hc hd he => I.inj n' m' r' q' ha hb' ?_ ?_ he) (fun n' r' b' q1 q2 => ?_)
                        · rw [T.get_set] at hc; split at hc
                          · next e => rw [e, hba]; simp
                          · exact hc
                        · rw [T.get_set] at hd; split at hd
                          · next e => rw [e, hba]; simp
                          · exact hd
                        · rw [T.get_set] at q2
                          by_cases e : n' = a
                          · subst e
                            rw [if_pos rfl] at q2
                            cases q2
                            rw [hra] at q1
                            cases q1
                            exact .inr (f2 w2 fz' hz')
                          · rw [if_neg e] at q2
                            exact .inl ⟨q1, q2, hz.block _ (I.bnd n' r' q1).2.2 (fun he => e (I.inj n' a r' ra q1 hra (by rw [q2]; simp) (by rw [hba]; simp) (by simpa using he.symm)))⟩
                      · rw [T.get_set, if_neg]
                        intro e; rw [e, hra] at hk; cases hk
                  next => cases h
                next => cases h
            next => cases h
      next => cases h
  next => cases h
end Go.Proofs.YthponidjednfbaaGreatDoor.Ev
