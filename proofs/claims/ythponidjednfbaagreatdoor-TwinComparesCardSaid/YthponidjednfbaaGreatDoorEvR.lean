/-
  Calls that are known beforehand: a map's keys, sorted (slices.Sorted(maps.Keys(m))), where there is one at most.
-/
import Derived.Test.YthponidjednfbaaGreatDoorEvE
import Derived.Test.YthponidjednfbaaGreatDoorIter
namespace Go.Proofs.YthponidjednfbaaGreatDoor
open Go.RowKit Go.Maps Go.Sort Go.Shelf
open Ev (CallE CallOK St T Blk Inv Where VL VR Frm Stp Ext BR Foot)

/-- a block that a call has made, wherever it lies -/
theorem inv_fresh {P : Program} {β : Where} {hp : T Blk} {nx N0 : Nat} {w w' : World} (I : Inv P β hp nx N0 w) (hb : Below w.heap.size w w') {g hid : Nat} (h1 : w.heap.size ≤ g) (h2 : g < w'.heap.size) {b : Blk} (hbr : ∀ γ, Ext β γ → BR P γ b (g, hid) w') :
    Stp P N0 β hp nx w (β.upd nx (g, hid)) (hp.set (some b) nx) (nx + 1) w' := by
  have hnone : β nx = none := by
    cases h : β nx with
    | none => rfl
    | some r => exact absurd (I.bnd nx r h).1 (by omega)
  have hx : Ext β (β.upd nx (g, hid)) := fun n r h => by
    unfold Where.upd
    rw [if_neg (fun e => by rw [e, hnone] at h; cases h)]
    exact h
  have hup : ∀ n r, β.upd nx (g, hid) n = some r → (n = nx ∧ r = (g, hid)) ∨ (n ≠ nx ∧ β n = some r) := fun n r h => by
    unfold Where.upd at h
    by_cases e : n = nx
    · rw [if_pos e] at h; cases h; exact .inl ⟨e, rfl⟩
    · rw [if_neg e] at h; exact .inr ⟨e, h⟩
  have hN := I.base
  refine ⟨hx, by omega, ?_, hb.mono I.base, fun n hn hβ => ?_, Frm.new (fun k q hk hne hh => by rwa [Ev.T.get_set, if_neg hne] at hh) (.inl h1) (fun k hk _ => hb.block k hk)⟩
  · refine I.upd (I.cln_new _) hx (by omega) hb.size (fun n r h => ?_) (fun n m r q k1 k2 k3 k4 k5 => ?_) fun n r b' k1 k2 => ?_
    · rcases hup n r h with ⟨rfl, rfl⟩ | ⟨_, h⟩
      · exact .inr ⟨by omega, by simp only; omega, h2⟩
      · exact .inl h
    · rw [Ev.T.get_set] at k3 k4
      rcases hup n r k1 with ⟨e1, e2⟩ | ⟨n1, g1⟩ <;> rcases hup m q k2 with ⟨e3, e4⟩ | ⟨n2, g2⟩
      · rw [e1, e3]
      · have := (I.bnd m q g2).2.2; rw [e2] at k5; simp at k5; omega
      · have := (I.bnd n r g1).2.2; rw [e4] at k5; simp at k5; omega
      · rw [if_neg n1] at k3; rw [if_neg n2] at k4
        exact I.inj n m r q g1 g2 k3 k4 k5
    · rw [Ev.T.get_set] at k2
      rcases hup n r k1 with ⟨rfl, rfl⟩ | ⟨n1, k1⟩
      · rw [if_pos rfl] at k2; cases k2
        exact .inr (hbr _ hx)
      · rw [if_neg n1] at k2
        exact .inl ⟨k1, k2, hb.block _ (I.bnd n r k1).2.2⟩
  · have hne : n ≠ nx := by omega
    exact ⟨by unfold Where.upd; rw [if_neg hne]; exact hβ, by rw [Ev.T.get_set, if_neg hne]⟩
def anyR {H : Type} : Value → Option (DataW H × List MemPlace) := fun _ => some (.nil, [])
/-- the map's one key, or none -/
def oneKey : List (Value × Value) → Option (List (List UInt8))
  | [] => some []
  | [(.string s, _)] => bif Nat.ble s.data.toList.length 1000000 then some [s.data.toList] else none
  | _ => none
theorem sorted_at (g b : Nat) (es : Array MapEntry) (clock : Nat) (ks : List (List UInt8)) (w : World) (h1 : w.cell? ⟨g, 0, none⟩ = some (.map (some b))) (hg : g < w.heap.size) (hb : w.heap[b]? = some (.map es clock)) (hst : MapKept.Stamped es clock) (hk : oneKey (es.toList.map fun e => (e.key, e.val)) = some ks) :
    Calls Tryz.prog 333 #[.func (.func 390) #[] #[.pointer (some ⟨g, 0, none⟩)]] w fun e w' => ∃ v, e = .returned v ∧ ks.length ≤ 1 ∧
      w'.ownsRow w.heap.size 9 1 v ks.length (ks.map encStr) ∧ (v = .slice none 0 0 ↔ ks = []) ∧ Below w.heap.size w w' := by
  obtain ⟨D0, hown, hD, hks, hl⟩ : ∃ D0 : DataW Unit, w.ownsMap Tryz.prog 9 anyR b es.size D0 ∧ Maps.size D0 ≤ 1 ∧ strKeys D0 = ks ∧ ks.length ≤ 1 := by
    match hes : es.toList, hk with
    | [], hk =>
      cases hk
      have he : es = #[] := by simpa using hes
      subst he
      exact ⟨.map [], ⟨#[], clock, hb, ⟨by simp, hst, by simp⟩, by simp, rfl⟩, by simp [Maps.size], rfl, by simp⟩
    | [e], hk =>
      obtain ⟨key, val, born⟩ := e
      cases key <;> simp [oneKey] at hk
      rename_i s
      cases hbl : Nat.ble s.size 1000000 with
      | false => rw [hbl] at hk; cases hk
      | true =>
        rw [hbl] at hk
        cases hk
        have hbl := Nat.le_of_ble_eq_true hbl
        have hrd : ∀ v bn, Go.WideElems.rd (H := Unit) Tryz.prog 9 anyR ⟨.string s, v, bn⟩ = some (.string s.data.toList, .nil) := fun v bn => by
          have : s.size ≤ maxLen := by unfold maxLen; omega
          simp [Go.WideElems.rd, keyOf, mapKey, Tryz.underlying9, this, anyR]
        have hsz : es.size = 1 := by rw [← Array.length_toList, hes]; rfl
        refine ⟨.map [(.string s.data.toList, .nil)], ⟨es, clock, hb, ⟨by unfold maxLen; omega, hst, fun x hx => ?_⟩, Nat.le_refl _, ?_⟩, by simp [Maps.size], by simp [strKeys, strOf], by simp⟩
        · rw [hes, List.mem_singleton] at hx
          subst hx
          exact ⟨_, hrd _ _⟩
        · simp [hes, Go.WideElems.rg, hrd, DataW.insert]
    | _ :: _ :: _, hk => exact absurd hk (by simp only [List.map_cons]; unfold oneKey; split <;> simp_all)
  have hseq : SeqGives Fence.wide 2 Tryz.prog 390 #[.pointer (some ⟨g, 0, none⟩)] encStr (fun ss => ss.Perm (strKeys D0)) (Maps.size D0) w :=
    AnyZ.keys_gives (ρ := Tryz.keys334_ren) { Tryz.keys334 with } Fence.wide _ trivial rfl (by omega) g b es.size D0 w hg h1 hown
  refine Calls.mono (callsIn_wide.1 (AnyZ.sorted_in Tryz.sorted333 Fence.wide 5 trivial trivial trivial trivial rfl (by omega) (Tryz.sorts333 _) (enters_of Tryz.func389 (by kernel_rfl) rfl) 390 #[.pointer (some ⟨g, 0, none⟩)] trivial (enters_of Tryz.func390 (by kernel_rfl) rfl) _ _ (by unfold maxLen; omega) (by omega) _ hseq)) ?_
  rintro e w' ⟨v, ss, rfl, hp, hrow, hnil, hbw⟩
  rw [hks] at hp
  have e1 : ss = ks := by
    match ks, hl, hp with
    | [], _, hp => exact List.perm_nil.1 hp
    | [k], _, hp => exact List.perm_singleton.1 hp
    | _ :: _ :: _, hl, _ => simp at hl
  subst e1
  have e2 : ss.mergeSort (fun x y => decide (x ≤ y)) = ss := by
    match ss, hl with
    | [], _ => simp
    | [k], _ => simp
    | _ :: _ :: _, hl => simp at hl
  rw [e2] at hrow
  exact ⟨v, rfl, hl, hrow, hnil, hbw⟩
noncomputable def sortQ : CallE := fun f args hp nx =>
  Bool.rec none (match args with
    | [.func (.func g) a b] => bif Nat.beq g 390 then (match a.toList, b.toList with
      | [], [.pointer (some ⟨n, 0, none⟩)] => (match hp.get n with
        | some (.row cs m _) => bif Nat.ble 1 m then (match cs.get 0 with
          | some (.map (some k)) => (match hp.get k with
            | some (.map es) => (match oneKey es with
              | some [] => some (.slice none 0 0, hp, nx)
              | some [s] => some (.slice (some ⟨nx, 0, none⟩) 1 1, hp.set (some (.row (Ev.setN .leaf 0 [.string ⟨s.toArray⟩]) 1 9)) nx, nx + 1)
              | _ => none)
            | _ => none)
          | _ => none) else none
        | _ => none)
      | _, _ => none) else none
    | _ => none) (Nat.beq f 333)
theorem esz_str : Ev.esz Tryz.prog 9 = 1 := by kernel_rfl
theorem sortQ_sound (N0 : Nat) : CallOK Tryz.prog N0 sortQ := by
  intro f args hp nx v hp' nx' h β w args' I hl
  obtain ⟨hf, h'⟩ := Ev.boolRec_some (show (Bool.rec none _ (Nat.beq f 333) : Option (Value × T Blk × Nat)) = some (v, hp', nx') from h)
  replace h := h'
  obtain rfl := Nat.eq_of_beq_eq_true hf
  split at h
  next g a b =>
    match args', hl.1 with
    | [p], _ =>
      obtain ⟨a', b', rfl, k1, k2⟩ := (hl.2 0 _ _ rfl rfl).func_inv
      cases hb : Nat.beq g 390 with
      | false => rw [hb] at h; cases h
      | true =>
        rw [hb, cond_true] at h
        obtain rfl := Nat.eq_of_beq_eq_true hb
        split at h
        next n ha hb' =>
          rw [ha] at k1
          rw [hb'] at k2
          have k1' := k1.1
          have k2' := k2.1
          match a', k1', b', k2' with
          | [], _, [q], _ =>
            obtain ⟨r, hr, rfl⟩ := (k2.2 0 _ _ rfl rfl).ptr_inv
            split at h
            next cs m ty hg =>
              obtain ⟨cs', c1, c2, c3, c4⟩ := I.hr n r _ hr hg
              cases hm : Nat.ble 1 m with
              | false => rw [hm] at h; cases h
              | true =>
                rw [hm, cond_true] at h
                have hm := Nat.le_of_ble_eq_true hm
                obtain ⟨x, x', d1, d2, d3⟩ := c4 0 (by omega)
                split at h
                next k hc =>
                  rw [hc] at d1
                  cases d1
                  obtain ⟨rk, hrk, rfl⟩ := d3.map_inv
                  split at h
                  next es he =>
                    obtain ⟨es', ck, hw, hes, hsp⟩ := I.hr k rk _ hrk he
                    have hcell : w.cell? ⟨r.1, 0, none⟩ = some (.map (some rk.1)) := (Ev.cell_row c1 0).trans d2
                    have hlt := (I.bnd n r hr).2.2
                    split at h
                    next ho =>
                      rw [← hes] at ho
                      simp only [Option.some.injEq, Prod.mk.injEq] at h
                      obtain ⟨rfl, rfl, rfl⟩ := h
                      refine Calls.mono (sorted_at r.1 rk.1 es' ck [] w hcell hlt hw hsp ho) ?_
                      rintro e w' ⟨v, rfl, _, _, hnil, hbw⟩
                      obtain rfl := hnil.2 rfl
                      exact ⟨β, _, rfl, ⟨Ext.refl _, Nat.le_refl _, I.upd I.cln (Ext.refl _) (Nat.le_refl _) hbw.size (fun n r h => .inl h) I.inj (fun n' r' b' q1 q2 => .inl ⟨q1, q2, hbw.block _ (I.bnd n' r' q1).2.2⟩), hbw.mono I.base, fun _ _ hk => ⟨hk, rfl⟩, Frm.at (fun _ h => h) (fun g hg _ => hbw.block g hg)⟩, VR.atom rfl⟩
                    next s ho =>
                      rw [← hes] at ho
                      simp only [Option.some.injEq, Prod.mk.injEq] at h
                      obtain ⟨rfl, rfl, rfl⟩ := h
                      refine Calls.mono (sorted_at r.1 rk.1 es' ck [s] w hcell hlt hw hsp ho) ?_
                      rintro e w' ⟨v, rfl, _, hrow, hnil, hbw⟩
                      rcases hrow.2 with ⟨hv, _⟩ | ⟨g', cap, cur, rfl, q1, q2, q3, q4, q5, q6⟩
                      · exact absurd (hnil.1 hv) (by simp)
                      · have hone : cur[0]? = some (.string ⟨s.toArray⟩) := by
                          have := congrArg (·[0]?) q6
                          simp [encStr] at this
                          exact this
                        simp only [List.length_cons, List.length_nil, Nat.zero_add, Nat.mul_one] at q3 q5 ⊢
                        have hS := inv_fresh I hbw (g := g') (hid := cap - 1) q1 (lt_of_block q2) (b := .row (Ev.setN .leaf 0 [.string ⟨s.toArray⟩]) 1 9) (fun γ hγ => ⟨cur, q2, by rw [esz_str]; omega, by rw [esz_str]; simp only [Nat.div_one]; omega, fun i hi => by
                          obtain rfl : i = 0 := by omega
                          exact ⟨_, _, by rw [Ev.setN_get, if_pos ⟨by omega, by simp⟩]; rfl, hone, VR.atom rfl⟩⟩)
                        refine ⟨_, _, rfl, hS, ?_⟩
                        have hβ : (β.upd nx (g', cap - 1)) nx = some (g', cap - 1) := by unfold Where.upd; rw [if_pos rfl]
                        have := VR.sl (n := nx) (o := 0) (len := 1) (c := 1) hβ
                        rwa [show 1 + (g', cap - 1).2 = cap by simp only; omega] at this
                    next => cases h
                  next => cases h
                next => cases h
            next => cases h
        next => cases h
  next => cases h
end Go.Proofs.YthponidjednfbaaGreatDoor
