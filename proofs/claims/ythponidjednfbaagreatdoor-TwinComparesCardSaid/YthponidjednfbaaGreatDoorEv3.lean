/-
  The evaluator: memory; loads, stores, blocks that are made.
-/
import Derived.Test.YthponidjednfbaaGreatDoorEv2
import Derived.Laws.CopyRow
import Derived.Laws.Tables
import Derived.Maps.AppendAt
import Derived.Below
import Derived.IntWalk
import Derived.MapKept
namespace Go.Proofs.YthponidjednfbaaGreatDoor.Ev
open RowKit

def esz (P : Program) (t : TypeId) : Nat := (sizeOf P t).getD 0
/-- a block as it is known, and in memory -/
def BR (P : Program) (β : Where) (b : Blk) (r : Nat × Nat) (w : World) : Prop :=
  match b with
  | .row cs m ty => ∃ cs' : Array Value, w.heap[r.1]? = some (.cells cs' ty (0, 0)) ∧ cs'.size = m + r.2 * esz P ty ∧ m / esz P ty + r.2 ≤ maxLen ∧
      ∀ i, i < m → ∃ v v', cs.get i = some v ∧ cs'[i]? = some v' ∧ VR β v v'
  | .ro cs m => ∃ (cs' : Array Value) (ty : TypeId) (z : Nat × Nat), w.heap[r.1]? = some (.cells cs' ty z) ∧ m ≤ cs'.size ∧ ∀ i, i < m → ∃ v v', cs.get i = some v ∧ cs'[i]? = some v' ∧ VR β v v'
  | .map es => ∃ es' k, w.heap[r.1]? = some (.map es' k) ∧ es'.toList.map (fun e => (e.key, e.val)) = es ∧ MapKept.Stamped es' k
theorem BR.kept {P : Program} {β β' : Where} (hx : Ext β β') {b : Blk} {r : Nat × Nat} {w w' : World} (h : BR P β b r w) (hw : w'.heap[r.1]? = w.heap[r.1]?) : BR P β' b r w' := by
  cases b with
  | row cs m ty =>
    obtain ⟨cs', h1, h2, h3, h4⟩ := h
    exact ⟨cs', hw.trans h1, h2, h3, fun i hi => let ⟨v, v', a, b, c⟩ := h4 i hi; ⟨v, v', a, b, c.mono hx⟩⟩
  | ro cs m =>
    obtain ⟨cs', ty, z, h1, h2, h4⟩ := h
    exact ⟨cs', ty, z, hw.trans h1, h2, fun i hi => let ⟨v, v', a, b, c⟩ := h4 i hi; ⟨v, v', a, b, c.mono hx⟩⟩
  | map es => obtain ⟨es', k, h1, h2⟩ := h; exact ⟨es', k, hw.trans h1, h2⟩
theorem BR.read {P : Program} {β : Where} {b : Blk} {r : Nat × Nat} {w : World} (h : BR P β b r w) {cs : T Value} {m : Nat} (hb : b.rd = some (cs, m)) :
    ∃ (cs' : Array Value) (ty : TypeId) (z : Nat × Nat), w.heap[r.1]? = some (.cells cs' ty z) ∧ m ≤ cs'.size ∧ ∀ i, i < m → ∃ v v', cs.get i = some v ∧ cs'[i]? = some v' ∧ VR β v v' := by
  cases b with
  | row cs0 m0 ty => cases hb; obtain ⟨cs', h1, h2, h3, h4⟩ := h; exact ⟨cs', ty, (0, 0), h1, by omega, h4⟩
  | ro cs0 m0 => cases hb; exact h
  | map es => cases hb
/-- what is known of memory holds of it -/
structure Inv (P : Program) (β : Where) (hp : T Blk) (nx N0 : Nat) (w : World) : Prop where
  bnd : ∀ n r, β n = some r → n < nx ∧ N0 ≤ r.1 ∧ r.1 < w.heap.size
  inj : ∀ n m r q, β n = some r → β m = some q → hp.get n ≠ none → hp.get m ≠ none → r.1 = q.1 → n = m
  hr : ∀ n r b, β n = some r → hp.get n = some b → BR P β b r w
  base : N0 ≤ w.heap.size
  cln : ∀ n, nx ≤ n → hp.get n = none
theorem Inv.upd {P : Program} {β β' : Where} {hp hp' : T Blk} {nx nx' N0 : Nat} {w w' : World} (I : Inv P β hp nx N0 w) (hc : ∀ n, nx' ≤ n → hp'.get n = none) (hx : Ext β β') (hn : nx ≤ nx') (hsz : w.heap.size ≤ w'.heap.size)
    (hb : ∀ n r, β' n = some r → β n = some r ∨ (n < nx' ∧ N0 ≤ r.1 ∧ r.1 < w'.heap.size))
    (hi : ∀ n m r q, β' n = some r → β' m = some q → hp'.get n ≠ none → hp'.get m ≠ none → r.1 = q.1 → n = m)
    (hr : ∀ n r b, β' n = some r → hp'.get n = some b → (β n = some r ∧ hp.get n = some b ∧ w'.heap[r.1]? = w.heap[r.1]?) ∨ BR P β' b r w') : Inv P β' hp' nx' N0 w' where
  bnd n r h := (hb n r h).elim (fun h => let ⟨a, b, c⟩ := I.bnd n r h; ⟨Nat.lt_of_lt_of_le a hn, b, Nat.lt_of_lt_of_le c hsz⟩) id
  inj := hi
  hr n r b h h' := (hr n r b h h').elim (fun ⟨a, b, c⟩ => (I.hr _ _ _ a b).kept hx c) id
  base := Nat.le_trans I.base hsz
  cln := hc
theorem Inv.drew {P : Program} {β : Where} {hp : T Blk} {nx N0 : Nat} {w : World} (I : Inv P β hp nx N0 w) : Inv P β hp nx N0 { w with drawn := w.drawn + 1 } := ⟨I.bnd, I.inj, fun n r b h h' => (I.hr n r b h h').kept (Ext.refl _) rfl, I.base, I.cln⟩
theorem Inv.cln_set {P : Program} {β : Where} {hp : T Blk} {nx N0 : Nat} {w : World} (I : Inv P β hp nx N0 w) {n : Nat} {r : Nat × Nat} (hr : β n = some r) (b : Option Blk) : ∀ k, nx ≤ k → (hp.set b n).get k = none := fun k hk => by
  have := (I.bnd n r hr).1
  rw [T.get_set, if_neg (by omega)]; exact I.cln k hk
theorem Inv.cln_new {P : Program} {β : Where} {hp : T Blk} {nx N0 : Nat} {w : World} (I : Inv P β hp nx N0 w) (b : Option Blk) : ∀ k, nx + 1 ≤ k → (hp.set b nx).get k = none := fun k hk => by
  rw [T.get_set, if_neg (by omega)]; exact I.cln k (by omega)
/-- the blocks that are known of -/
def Foot (β : Where) (hp : T Blk) (g : Nat) : Prop := ∃ n r, β n = some r ∧ hp.get n ≠ none ∧ r.1 = g
/-- what is not known of stays as it is -/
structure Frm (β : Where) (hp : T Blk) (w : World) (β' : Where) (hp' : T Blk) (w' : World) : Prop where
  fr : ∀ g, g < w.heap.size → ¬ Foot β hp g → w'.heap[g]? = w.heap[g]?
  fp : ∀ g, g < w.heap.size → Foot β' hp' g → Foot β hp g
theorem Frm.refl (β : Where) (hp : T Blk) (w : World) : Frm β hp w β hp w := ⟨fun _ _ _ => rfl, fun _ _ h => h⟩
theorem Frm.trans {β β1 β2 : Where} {hp hp1 hp2 : T Blk} {w w1 w2 : World} (a : Frm β hp w β1 hp1 w1) (b : Frm β1 hp1 w1 β2 hp2 w2) (hs : w.heap.size ≤ w1.heap.size) : Frm β hp w β2 hp2 w2 :=
  ⟨fun g hg hn => (b.fr g (Nat.lt_of_lt_of_le hg hs) fun hf => hn (a.fp g hg hf)).trans (a.fr g hg hn), fun g hg hf => a.fp g hg (b.fp g (Nat.lt_of_lt_of_le hg hs) hf)⟩
theorem Frm.at {β : Where} {hp hp' : T Blk} {w w' : World} (hd : ∀ n, hp'.get n ≠ none → hp.get n ≠ none) (hw : ∀ g, g < w.heap.size → ¬ Foot β hp g → w'.heap[g]? = w.heap[g]?) : Frm β hp w β hp' w' :=
  ⟨hw, fun _ _ ⟨n, r, h1, h2, h3⟩ => ⟨n, r, h1, hd n h2, h3⟩⟩
theorem one_cell' (v : Value) : v.oneCell' = one v := by cases v <;> rfl
theorem cell_row {w : World} {g : Nat} {cs : Array Value} {t : TypeId} {z : Nat × Nat} (h : w.heap[g]? = some (.cells cs t z)) (o : Nat) : w.cell? ⟨g, o, none⟩ = cs[o]? := by
  simp [World.cell?, h]
/-- loads -/
theorem load_sound {P : Program} {β : Where} {hp : T Blk} {nx N0 : Nat} {w : World} (I : Inv P β hp nx N0 w) {t : TypeId} {n o : Nat} {v : Value} (h : loadAt P hp t n o = some v) {r : Nat × Nat} (hr : β n = some r) :
    ∃ v', (loadVar t ⟨r.1, o, none⟩).run P w = .ok v' w ∧ VR β v v' := by
  unfold loadAt rdOf at h
  cases hb : hp.get n with
  | none => rw [hb] at h; cases h
  | some b =>
    rw [hb] at h
    simp only at h
    cases hrd : b.rd with
    | none => rw [hrd] at h; cases h
    | some x =>
      obtain ⟨cs, m⟩ := x
      rw [hrd] at h
      obtain ⟨cs', ty, z, h1, h2, h4⟩ := (I.hr n r _ hr hb).read hrd
      simp only at h
      split at h
      · next k ha hk =>
        cases hle : Nat.ble (o + k) m with
        | false => rw [hle] at h; cases h
        | true =>
          rw [hle, cond_true] at h
          have hle := Nat.le_of_ble_eq_true hle
          cases hg : getN cs o k with
          | none => rw [hg] at h; cases h
          | some l =>
            rw [hg] at h
            cases h
            have hll := getN_len hg
            have hsz : ((cs'.toList.drop o).take k).length = k := by simp; omega
            have hget : ∀ j, j < k → ((cs'.toList.drop o).take k)[j]? = cs'[o + j]? := fun j hj => by
              rw [List.getElem?_take_of_lt hj, List.getElem?_drop]; simp
            have hrun := run_loadCells_list (P := P) w ⟨r.1, o, none⟩ ((cs'.toList.drop o).take k) fun j u hu => by
              rw [add_off, cell_row h1]
              have hj : j < k := by
                rcases Nat.lt_or_ge j k with h' | h'
                · exact h'
                · rw [List.getElem?_eq_none (by omega)] at hu; cases hu
              rw [← hget j hj]; exact hu
            rw [hsz] at hrun
            refine ⟨.agg ((cs'.toList.drop o).take k).toArray, ?_, ?_⟩
            · unfold loadVar
              simp only [Sem.run_bind, run_isAgg ha, Result.andThen_ok, if_true, run_sizeOf hk, hrun, Sem.run_pure]
            · refine .agg (hll.trans hsz.symm) fun i u u' hu hu' => ?_
              have hi : i < k := by
                rcases Nat.lt_or_ge i k with h' | h'
                · exact h'
                · rw [List.getElem?_eq_none (by omega)] at hu; cases hu
              obtain ⟨x, x', a, b, c⟩ := h4 (o + i) (by omega)
              rw [getN_get hg i hi, a] at hu
              rw [hget i hi, b] at hu'
              cases hu; cases hu'; exact c
      · next sz ha hk =>
        cases hle : Nat.ble (o + 1) m with
        | false => rw [hle] at h; cases h
        | true =>
          rw [hle, cond_true] at h
          have hle := Nat.le_of_ble_eq_true hle
          obtain ⟨x, x', a, b, c⟩ := h4 o (by omega)
          rw [a] at h
          cases h
          refine ⟨x', ?_, c⟩
          unfold loadVar
          simp only [Sem.run_bind, run_isAgg hk, Result.andThen_ok, Bool.false_eq_true, if_false]
          simp only [load, Sem.run, cell_row h1, b]
      · cases h
def evL (P : Program) (ev : Val) (hp : T Blk) (o : Oper) : Option Value :=
  match o.op with
  | .load t a => match ev a with
    | some (.pointer (some ⟨n, o, none⟩)) => loadAt P hp t n o
    | _ => none
  | _ => none
theorem evL_sound {P : Program} {β : Where} {hp : T Blk} {nx N0 : Nat} {w : World} (I : Inv P β hp nx N0 w) {ev : Val} {ρ : Operand → Value} {o : Oper} {v : Value} (h : evL P ev hp o = some v) (hO : OR β ev ρ o.op.operands) :
    ∃ v', (execOp ρ o).run P w = .ok (.value v') w ∧ VR β v v' := by
  obtain ⟨dst, op, type, pos, after, guard⟩ := o
  unfold OR at hO
  cases op <;> simp only [evL] at h <;> try (cases h; done)
  case load t a =>
    split at h
    · next n o ha =>
      obtain ⟨r, hr, e⟩ := (hO a (by simp [Op.operands]) _ ha).ptr_inv
      obtain ⟨v', h1, h2⟩ := load_sound I h hr
      refine ⟨v', ?_, h2⟩
      simp only [execOp, e, Instr.loadAt, Instr.sureAddr, Sem.run_bind, Sem.run_pure, Result.andThen_ok, h1]
    · cases h
/-- operations that only look -/
def evQ (P : Program) (ev : Val) (hp : T Blk) (o : Oper) : Option Value :=
  match o.op with
  | .load _ _ => evL P ev hp o
  | _ => match evS P ev o with
    | some v => some v
    | none => pureQ P ev o
theorem evQ_sound {P : Program} {β : Where} {hp : T Blk} {nx N0 : Nat} {w : World} (I : Inv P β hp nx N0 w) {ev : Val} {ρ : Operand → Value} {o : Oper} {v : Value} (h : evQ P ev hp o = some v) (hO : OR β ev ρ o.op.operands) :
    ∃ v', (execOp ρ o).run P w = .ok (.value v') w ∧ VR β v v' := by
  unfold evQ at h
  split at h
  · exact evL_sound I h hO
  · split at h
    · next u hu => cases h; exact evS_sound hu hO w
    · exact pureQ_sound h hO w
/-- stores -/
def storeAt (hp : T Blk) (n o : Nat) (l : List Value) : Option (T Blk) :=
  match hp.get n with
  | some (.row cs m t) => bif Nat.ble (o + l.length) m && l.all one then some (hp.set (some (.row (setN cs o l) m t)) n) else none
  | _ => none
theorem store_sound {P : Program} {β : Where} {hp hp' : T Blk} {nx N0 : Nat} {w : World} (I : Inv P β hp nx N0 w) {n o : Nat} {l : List Value} (h : storeAt hp n o l = some hp') {r : Nat × Nat} (hr : β n = some r) {l' : List Value} (hl : VL β l l') :
    ∃ w', (storeCells ⟨r.1, o, none⟩ l').run P w = .ok () w' ∧ Inv P β hp' nx N0 w' ∧ Below N0 w w' ∧ Frm β hp w β hp' w' := by
  unfold storeAt at h
  cases hb : hp.get n with
  | none => rw [hb] at h; cases h
  | some b =>
    rw [hb] at h
    cases b with
    | map es => cases h
    | ro cs m => cases h
    | row cs m ty =>
      simp only at h
      cases hle : (Nat.ble (o + l.length) m && l.all one) with
      | false => rw [hle] at h; cases h
      | true =>
        rw [hle, cond_true] at h
        cases h
        simp only [Bool.and_eq_true, List.all_eq_true] at hle
        have hle1 := Nat.le_of_ble_eq_true hle.1
        obtain ⟨cs', h1, h2, h3, h4⟩ := I.hr n r _ hr hb
        obtain ⟨b1, b2, b3⟩ := I.bnd n r hr
        have hrun := run_storeCells_at (P := P) r.1 o ty l' 0 cs' w h1 (by rw [← hl.1]; omega) fun u hu => by
          rw [one_cell']
          obtain ⟨i, hi, rfl⟩ := List.mem_iff_getElem.1 hu
          have hi' : i < l.length := hl.1 ▸ hi
          rw [(hl.2 i _ _ (List.getElem?_eq_getElem hi') (List.getElem?_eq_getElem hi)).one]
          exact hle.2 _ (List.getElem_mem hi')
        simp only [Nat.add_zero] at hrun
        have hll := hl.1
        refine ⟨_, hrun, ?_, ⟨rfl, rfl, rfl, by simp, fun k hk => setRow_other w _ k _ (by omega)⟩, Frm.at (fun k hk => by
          rw [T.get_set] at hk; split at hk
          · next e => rw [e, hb]; simp
          · exact hk) (fun g _ hn => setRow_other w _ g _ (fun e => hn ⟨n, r, hr, by rw [hb]; simp, by first | exact e | exact e.symm⟩))⟩
        refine I.upd (I.cln_set hr _) (Ext.refl _) (Nat.le_refl _) (by simp) (fun n r h => .inl h) (fun n' m' r' q' ha hb' hc hd he => I.inj n' m' r' q' ha hb' ?_ ?_ he) fun n' r' b' hβ hg => ?_
        · rw [T.get_set] at hc; split at hc
          · next e => rw [e, hb]; simp
          · exact hc
        · rw [T.get_set] at hd; split at hd
          · next e => rw [e, hb]; simp
          · exact hd
        · rw [T.get_set] at hg
          by_cases e : n' = n
          · subst e
            rw [if_pos rfl] at hg
            cases hg
            rw [hr] at hβ
            cases hβ
            refine .inr ⟨_, setRow_heap w r.1 cs' _ ty _ h1, by simp [hl.1.symm]; omega, h3, fun i hi => ?_⟩
            rw [setN_get]
            obtain ⟨x, x', a, b, c⟩ := h4 i hi
            by_cases hin : o ≤ i ∧ i < o + l.length
            · rw [if_pos hin]
              have hil : i - o < l.length := by omega
              have hil' : i - o < l'.length := hl.1 ▸ hil
              refine ⟨l[i - o], l'[i - o], List.getElem?_eq_getElem hil, ?_, hl.2 _ _ _ (List.getElem?_eq_getElem hil) (List.getElem?_eq_getElem hil')⟩
              rw [List.getElem?_toArray, List.getElem?_append_left (by simp; omega), List.getElem?_append_right (by simp; omega)]
              simp only [List.length_take, Array.length_toList]
              rw [show i - min o cs'.size = i - o by omega]
              exact List.getElem?_eq_getElem hil'
            · rw [if_neg hin]
              refine ⟨x, x', a, ?_, c⟩
              rw [List.getElem?_toArray]
              by_cases hlt : i < o
              · rw [List.getElem?_append_left (by simp; omega), List.getElem?_append_left (by simp; omega), List.getElem?_take_of_lt hlt]
                simpa using b
              · rw [List.getElem?_append_right (by simp; omega), List.getElem?_drop]
                simp only [List.length_append, List.length_take, Array.length_toList]
                rw [show o + l'.length + (i - (min o cs'.size + l'.length)) = i by omega]
                simpa using b
          · rw [if_neg e] at hg
            exact .inl ⟨hβ, hg, setRow_other w _ _ _ fun he => e (I.inj n' n r' r hβ hr (by rw [hg]; simp) (by rw [hb]; simp) he)⟩
/-- blocks that are made: the cells, the type; a slice's length and capacity -/
def mkV (sh : Option (Nat × Nat)) (b : Nat) : Value :=
  match sh with
  | none => .pointer (some ⟨b, 0, none⟩)
  | some (l, c) => .slice (some ⟨b, 0, none⟩) l c
def reps (z : List Value) : Nat → List Value
  | 0 => []
  | k + 1 => z ++ reps z k
def evM (P : Program) (ev : Val) (o : Oper) : Option (List Value × TypeId × Option (Nat × Nat)) :=
  match o.op with
  | .alloc t => match zeroA P t with | some z => some (z, t, none) | none => none
  | .box t x => match ev x with | some v => some (v.cells.toList, t, none) | none => none
  | .makeSlice t l c => match P.underlying t, ev l, ev c with
    | some (.slice e), some (.int _ l), some (.int _ c) => match zeroA P e, P.info? e with
      | some z, some i => bif Nat.beq i.size z.length && Nat.ble 1 i.size && Nat.ble i.bytes 1000 && decide (0 ≤ l) && decide (l ≤ c) && decide (c ≤ 100000) then some (reps z c.toNat, e, some (l.toNat, c.toNat)) else none
      | _, _ => none
    | _, _, _ => none
  | .buildSlice t len ps => match P.underlying t, parts ev ps.toList with
    | some (.slice e), some l => match zeroA P e, P.info? e with
      | some z, some i => bif Nat.beq i.size z.length && Nat.ble 1 i.size && Nat.ble (len * i.size) 1000000 then
          match Instr.fill (fun j => some (j * i.size, i.size)) ⟨reps z len⟩ l with
          | some c => some (c.toList, e, some (len, len))
          | none => none
        else none
      | _, _ => none
    | _, _ => none
  | _ => none
theorem run_new {P : Program} (w : World) (t : TypeId) (cs : Array Value) : (newRow t cs).run P w = .ok ⟨w.heap.size, 0, none⟩ (w.alloc (.cells cs t)) := rfl
theorem reps_len (z : List Value) : ∀ k, (reps z k).length = k * z.length
  | 0 => by simp [reps]
  | k + 1 => by rw [reps, List.length_append, reps_len z k, Nat.add_mul]; omega
theorem reps_get (z : List Value) : ∀ k i, i < k * z.length → (reps z k)[i]? = z[i % z.length]?
  | 0, i, h => by simp at h
  | k + 1, i, h => by
    rw [reps]
    by_cases hi : i < z.length
    · rw [List.getElem?_append_left hi, Nat.mod_eq_of_lt hi]
    · rw [List.getElem?_append_right (by omega), reps_get z k _ (by rw [Nat.add_mul] at h; omega)]
      rw [← Nat.mod_eq_sub_mod (by omega)]
theorem reps_VL {β : Where} {z : List Value} (h : VL β z z) : ∀ k, VL β (reps z k) (reps z k)
  | 0 => VL.nil
  | k + 1 => h.append (reps_VL h k)
theorem range_reps (z' : Value) {z : List Value} (h2 : z'.cells.toList = z) (hz : 1 ≤ z.length) (c : Nat) : ((Array.range (c * z.length)).map fun x => z'.cells[x % z'.cells.size]!) = ⟨reps z c⟩ := by
  subst h2
  have hs : z'.cells.size = z'.cells.toList.length := by simp
  apply Array.ext_getElem?
  intro j
  by_cases hj : j < c * z'.cells.toList.length
  · have hlt : j % z'.cells.size < z'.cells.size := Nat.mod_lt _ (by omega)
    have hr := reps_get z'.cells.toList c j hj
    rw [← hs] at hr
    have hr2 : (⟨reps z'.cells.toList c⟩ : Array Value)[j]? = z'.cells[j % z'.cells.size]? := by
      rw [← Array.getElem?_toList, ← Array.getElem?_toList]; exact hr
    rw [hr2, Array.getElem?_map, Array.getElem?_range, if_pos hj]
    simp [hlt]
  · rw [Array.getElem?_eq_none (by simpa using hj), Array.getElem?_eq_none (by show (reps _ _).length ≤ j; rw [reps_len]; omega)]
theorem evM_sound {P : Program} {β : Where} {ev : Val} {ρ : Operand → Value} {o : Oper} {cs : List Value} {ty : TypeId} {sh : Option (Nat × Nat)} (h : evM P ev o = some (cs, ty, sh)) (hO : OR β ev ρ o.op.operands) (w : World) :
    ∃ cs' : List Value, VL β cs cs' ∧ (execOp ρ o).run P w = .ok (.value (mkV sh w.heap.size)) (w.alloc (.cells ⟨cs'⟩ ty)) := by
  obtain ⟨dst, op, type, pos, after, guard⟩ := o
  unfold OR at hO
  cases op <;> simp only [evM] at h <;> try (cases h; done)
  case alloc t =>
    split at h
    · next z hz =>
      cases h
      obtain ⟨z', h1, h2, h3, _⟩ := zeroA_run hz β
      refine ⟨_, h3, ?_⟩
      simp only [execOp, Instr.alloc, Sem.run_bind, h1, Result.andThen_ok, newVar, run_new, Sem.run_pure, mkV]
      rw [← h2]
    · cases h
  case box t x =>
    split at h
    · next v hv =>
      cases h
      have k := (hO x (by simp [Op.operands]) _ hv).cells
      refine ⟨_, k, ?_⟩
      simp only [execOp, Instr.box, Sem.run_bind, Result.andThen_ok, newVar, run_new, Sem.run_pure, mkV]
    · cases h
  case makeSlice t l c =>
    split at h
    · next e k1 li k2 ci hu hl hc =>
      split at h
      · next z i hz hi =>
        cases hb : (Nat.beq i.size z.length && Nat.ble 1 i.size && Nat.ble i.bytes 1000 && decide (0 ≤ li) && decide (li ≤ ci) && decide (ci ≤ 100000)) with
        | false => rw [hb] at h; cases h
        | true =>
          rw [hb] at h
          cases h
          simp only [Bool.and_eq_true, decide_eq_true_eq] at hb
          obtain ⟨⟨⟨⟨⟨b4, b6⟩, b5⟩, b1⟩, b2⟩, b3⟩ := hb
          have b4 := Nat.eq_of_beq_eq_true b4
          have b5 := Nat.le_of_ble_eq_true b5
          have b6 := Nat.le_of_ble_eq_true b6
          obtain ⟨z', h1, h2, h3, _⟩ := zeroA_run hz β
          have e1 := (hO l (by simp [Op.operands]) _ hl).int_inv
          have e2 := (hO c (by simp [Op.operands]) _ hc).int_inv
          have w1 : IntKind.i64.wrap li = li := IntWalk.i64_in _ (by omega)
          have w2 : IntKind.i64.wrap ci = ci := IntWalk.i64_in _ (by omega)
          have hbm : (i.bytes : Int) * ci ≤ 100000000 := by
            have := Int.mul_le_mul (show (i.bytes : Int) ≤ 1000 by omega) b3 (by omega) (by omega)
            omega
          have hbn : 0 ≤ (i.bytes : Int) * ci := Int.mul_nonneg (by omega) (by omega)
          refine ⟨reps z ci.toNat, reps_VL h3 _, ?_⟩
          simp only [execOp, e1, e2, Instr.makeSlice, Sem.run_bind, run_underlying hu, Result.andThen_ok, asInt, asIntOf, Sem.run_pure, run_typeInfo w hi, w1, w2]
          rw [if_neg (by simp; omega)]
          have hask : (askRoom (ci.toNat * i.bytes)).run P w = .ok () w := by unfold askRoom; split <;> rfl
          have hso : sizeOf P ty = some i.size := by unfold sizeOf; rw [hi]
          simp only [Sem.run_bind, hask, Result.andThen_ok, run_sizeOf hso]
          by_cases h0 : ci.toNat * i.size = 0
          · rw [if_pos h0, h0]
            have hc0 : ci.toNat = 0 := by
              rcases Nat.mul_eq_zero.1 h0 with h | h
              · exact h
              · omega
            rw [hc0]
            simp only [Sem.run_bind, Sem.run_pure, Result.andThen_ok, run_new, mkV, reps]
            rw [show ∀ f : Nat → Value, Array.map f (Array.range 0) = ⟨[]⟩ from fun f => by apply Array.ext <;> simp]
          · rw [if_neg h0]
            have hs : z'.cells.size = i.size := by rw [b4, ← h2]; simp
            have hm := range_reps z' h2 (b4 ▸ b6) ci.toNat
            rw [← b4] at hm
            simp only [Sem.run_bind, h1, Result.andThen_ok, Sem.run_pure, hm, run_new]
            rfl
      · cases h
    · cases h
  case buildSlice t len ps =>
    split at h
    · next e l hu hl =>
      split at h
      · next z i hz hi =>
        cases hb : (Nat.beq i.size z.length && Nat.ble 1 i.size && Nat.ble (len * i.size) 1000000) with
        | false => rw [hb] at h; cases h
        | true =>
          rw [hb, cond_true] at h
          simp only [Bool.and_eq_true] at hb
          have b4 := Nat.eq_of_beq_eq_true hb.1.1
          have b6 := Nat.le_of_ble_eq_true hb.1.2
          have b5 := Nat.le_of_ble_eq_true hb.2
          split at h
          · next c hf =>
            cases h
            obtain ⟨z', h1, h2, h3, _⟩ := zeroA_run hz β
            have hso : sizeOf P ty = some i.size := by unfold sizeOf; rw [hi]
            obtain ⟨out', r4, r5⟩ := fill_VL (parts_PL hl fun p hp u hu' => hO p.2 (by simp only [Op.operands]; simp only [List.mem_toArray, List.mem_map]; exact ⟨p, hp, rfl⟩) u hu') (cs' := ⟨reps z len⟩) (reps_VL h3 len) hf
            refine ⟨out'.toList, r5, ?_⟩
            have hps : (ps.map fun p => (p.1, ρ p.2)).toList = ps.toList.map fun p => (p.1, ρ p.2) := by simp
            have hm := range_reps z' h2 (b4 ▸ b6) len
            rw [← b4] at hm
            simp only [execOp, Instr.buildSlice, Sem.run_bind, run_underlying hu, Result.andThen_ok, run_sizeOf hso]
            rw [if_neg (by omega)]
            by_cases h0 : len * i.size = 0
            · have hl0 : len = 0 := by
                rcases Nat.mul_eq_zero.1 h0 with h | h
                · exact h
                · omega
              rw [if_pos h0, h0]
              rw [hl0] at r4 ⊢
              have hr0 : ∀ f : Nat → Value, Array.map f (Array.range 0) = ⟨reps z 0⟩ := fun f => by apply Array.ext <;> simp [reps]
              simp only [Sem.run_bind, Sem.run_pure, Result.andThen_ok, hr0, hps, r4, run_new]
              rfl
            · rw [if_neg h0]
              simp only [Sem.run_bind, h1, Result.andThen_ok, Sem.run_pure, hm, hps, r4, run_new]
              rfl
          · cases h
      · cases h
    · cases h
end Go.Proofs.YthponidjednfbaaGreatDoor.Ev
