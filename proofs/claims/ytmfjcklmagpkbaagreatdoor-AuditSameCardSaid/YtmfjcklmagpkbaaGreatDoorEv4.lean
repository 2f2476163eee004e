/-
  The evaluator: operations that act on memory.
-/
import Derived.Test.YtmfjcklmagpkbaaGreatDoorEv3
import Derived.Deep.AppendLies
namespace Go.Proofs.YtmfjcklmagpkbaaGreatDoor.Ev
open RowKit

def Where.upd (β : Where) (m : Nat) (r : Nat × Nat) : Where := fun n => if n = m then some r else β n
/-- one thing was done -/
structure Stp (P : Program) (N0 : Nat) (β : Where) (hp : T Blk) (nx : Nat) (w : World) (β' : Where) (hp' : T Blk) (nx' : Nat) (w' : World) : Prop where
  ext : Ext β β'
  le : nx ≤ nx'
  inv : Inv P β' hp' nx' N0 w'
  bel : Below N0 w w'
  gh : ∀ n, n < nx → β n = none → β' n = none ∧ hp'.get n = hp.get n
theorem Stp.refl {P : Program} {N0 : Nat} {β : Where} {hp : T Blk} {nx : Nat} {w : World} (I : Inv P β hp nx N0 w) : Stp P N0 β hp nx w β hp nx w :=
  ⟨Ext.refl _, Nat.le_refl _, I, Below.refl _ _, fun _ _ h => ⟨h, rfl⟩⟩
theorem Stp.trans {P : Program} {N0 : Nat} {β β1 β2 : Where} {hp hp1 hp2 : T Blk} {nx nx1 nx2 : Nat} {w w1 w2 : World} (a : Stp P N0 β hp nx w β1 hp1 nx1 w1) (b : Stp P N0 β1 hp1 nx1 w1 β2 hp2 nx2 w2) : Stp P N0 β hp nx w β2 hp2 nx2 w2 :=
  ⟨a.ext.trans b.ext, Nat.le_trans a.le b.le, b.inv, a.bel.trans b.bel, fun n h h' => by
    obtain ⟨c, d⟩ := a.gh n h h'
    obtain ⟨e, f⟩ := b.gh n (Nat.lt_of_lt_of_le h a.le) c
    exact ⟨e, f.trans d⟩⟩
/-- a name is kept for a block that is not there yet -/
theorem Inv.keep {P : Program} {β : Where} {hp : T Blk} {nx N0 : Nat} {w : World} (I : Inv P β hp nx N0 w) (b : Blk) : Inv P β (hp.set (some b) nx) (nx + 1) N0 w := by
  have hne : ∀ n r, β n = some r → n ≠ nx := fun n r h e => absurd (I.bnd n r h).1 (by omega)
  refine I.upd (Ext.refl _) (by omega) (Nat.le_refl _) (fun n r h => .inl h) (fun n m r q h1 h2 h3 h4 h5 => ?_) fun n r b' h1 h2 => ?_
  · rw [T.get_set, if_neg (hne n r h1)] at h3
    rw [T.get_set, if_neg (hne m q h2)] at h4
    exact I.inj n m r q h1 h2 h3 h4 h5
  · rw [T.get_set, if_neg (hne n r h1)] at h2
    exact .inl ⟨h1, h2, rfl⟩
/-- a block that a name was kept for is made -/
theorem Inv.made {P : Program} {β : Where} {hp : T Blk} {nx N0 : Nat} {w : World} (I : Inv P β hp nx N0 w) {m : Nat} (hm : m < nx) (hβ : β m = none) {cs cs' : List Value} {t : T Value} {ty : TypeId}
    (hh : hp.get m = some (.row t cs.length ty)) (ht : ∀ i, i < cs.length → t.get i = cs[i]?) (hlen : cs.length ≤ maxLen) (hl : VL β cs cs') :
    Inv P (β.upd m (w.heap.size, 0)) hp nx N0 (w.alloc (.cells ⟨cs'⟩ ty)) ∧ Ext β (β.upd m (w.heap.size, 0)) := by
  have hx : Ext β (β.upd m (w.heap.size, 0)) := fun n r h => by
    unfold Where.upd
    rw [if_neg (fun e => by rw [e, hβ] at h; cases h)]
    exact h
  have hup : ∀ n r, β.upd m (w.heap.size, 0) n = some r → (n = m ∧ r = (w.heap.size, 0)) ∨ (n ≠ m ∧ β n = some r) := fun n r h => by
    unfold Where.upd at h
    by_cases e : n = m
    · rw [if_pos e] at h; cases h; exact .inl ⟨e, rfl⟩
    · rw [if_neg e] at h; exact .inr ⟨e, h⟩
  refine ⟨I.upd hx (Nat.le_refl _) (by simp) (fun n r h => ?_) (fun n k r q h1 h2 h3 h4 h5 => ?_) (fun n r b h1 h2 => ?_), hx⟩
  · rcases hup n r h with ⟨rfl, rfl⟩ | ⟨_, h⟩
    · exact .inr ⟨hm, I.base, by simp⟩
    · exact .inl h
  · rcases hup n r h1 with ⟨e1, e2⟩ | ⟨n1, g1⟩ <;> rcases hup k q h2 with ⟨e3, e4⟩ | ⟨n2, g2⟩
    · rw [e1, e3]
    · have := (I.bnd k q g2).2.2; rw [e2] at h5; simp at h5; omega
    · have := (I.bnd n r g1).2.2; rw [e4] at h5; simp at h5; omega
    · exact I.inj n k r q g1 g2 h3 h4 h5
  · rcases hup n r h1 with ⟨rfl, rfl⟩ | ⟨n1, h1⟩
    · rw [hh] at h2
      cases h2
      refine .inr ⟨⟨cs'⟩, by show (w.heap.push _)[w.heap.size]? = _; simp, by simp [hl.1], ?_, fun i hi => ?_⟩
      · have := Nat.div_le_self cs.length (esz P ty); simp; omega
      · have hi' : i < cs'.length := hl.1 ▸ hi
        refine ⟨cs[i], cs'[i], by rw [ht i hi, List.getElem?_eq_getElem hi], by simp [hi'], (hl.2 i _ _ (List.getElem?_eq_getElem hi) (List.getElem?_eq_getElem hi')).mono hx⟩
    · exact .inl ⟨h1, h2, Below.heap_alloc w _ _ (I.bnd n r h1).2.2⟩
theorem mkV_VR {β : Where} {m b : Nat} (h : β m = some (b, 0)) (sh : Option (Nat × Nat)) : VR β (mkV sh m) (mkV sh b) := by
  cases sh with
  | none => exact .ptr h
  | some p => exact .sl (r := (b, 0)) h
/-- the cells of a row -/
def rowOf (hp : T Blk) (n o k : Nat) : Option (List Value) :=
  match rdOf hp n with
  | some (cs, m) => bif Nat.ble (o + k) m then getN cs o k else none
  | none => none
theorem rowOf_sound {P : Program} {β : Where} {hp : T Blk} {nx N0 : Nat} {w : World} (I : Inv P β hp nx N0 w) {n o k : Nat} {l : List Value} (h : rowOf hp n o k = some l) {r : Nat × Nat} (hr : β n = some r) :
    ∃ l' : List Value, VL β l l' ∧ l'.length = k ∧ ∀ j u, l'[j]? = some u → w.cell? ((⟨r.1, o, none⟩ : Addr).add j) = some u := by
  unfold rowOf rdOf at h
  cases hb : hp.get n with
  | none => rw [hb] at h; cases h
  | some b =>
    rw [hb] at h
    simp only at h
    cases hrd : b.rd with
    | none => rw [hrd] at h; cases h
    | some x =>
      obtain ⟨cs, m⟩ := x
      rw [hrd] at h
      obtain ⟨cs', ty, z, h1, h2, h4⟩ := (I.hr n r _ hr hb).read hrd
      simp only at h
      cases hle : Nat.ble (o + k) m with
      | false => rw [hle] at h; cases h
      | true =>
        rw [hle, cond_true] at h
        have hle := Nat.le_of_ble_eq_true hle
        have hll := getN_len h
        have hsz : ((cs'.toList.drop o).take k).length = k := by simp; omega
        have hget : ∀ j, j < k → ((cs'.toList.drop o).take k)[j]? = cs'[o + j]? := fun j hj => by
          rw [List.getElem?_take_of_lt hj, List.getElem?_drop]; simp
        have lt_of : ∀ j u, ((cs'.toList.drop o).take k)[j]? = some u → j < k := fun j u hu => by
          rcases Nat.lt_or_ge j k with h' | h'
          · exact h'
          · rw [List.getElem?_eq_none (by omega)] at hu; cases hu
        refine ⟨(cs'.toList.drop o).take k, ⟨hll.trans hsz.symm, fun i u u' hu hu' => ?_⟩, hsz, fun j u hu => ?_⟩
        · obtain ⟨x, x', a, b, c⟩ := h4 (o + i) (by have := lt_of i u' hu'; omega)
          rw [getN_get h i (lt_of i u' hu'), a] at hu
          rw [hget i (lt_of i u' hu'), b] at hu'
          cases hu; cases hu'; exact c
        · rw [add_off, cell_row h1, ← hget j (lt_of j u hu)]; exact hu
/-- append -/
def appQ (P : Program) (ev : Val) (hp : T Blk) (nx : Nat) (c : Call) : Option (Value × T Blk × Nat) :=
  match c.callee, c.args.toList, c.argTypes.toList with
  | .builtin .append, [s, x], [t, t'] =>
    match ev s, ev x, P.underlying t with
    | some (.slice base n cap), some (.slice (some ⟨b, o, none⟩) m _), some (.slice e) =>
      match P.info? e with
      | some i =>
        bif Nat.beq t t' && Nat.ble 1 m && Nat.ble 1 i.size && Nat.ble i.bytes 1000 && Nat.ble (n + m) 1000000 && Nat.ble n cap && (match i.zero with | some z => Nat.beq z.cells.size i.size | none => false) then
          match rowOf hp b o (m * i.size) with
          | some news =>
            bif news.all one then
              match base with
              | none => bif Nat.beq n 0 && Nat.beq cap 0 then
                  some (.slice (some ⟨nx, 0, none⟩) (n + m) (n + m), hp.set (some (.row (setN .leaf 0 news) ((n + m) * i.size) e)) nx, nx + 1)
                else none
              | some ⟨a, 0, none⟩ =>
                match hp.get a with
                | some (.row cs mm ty) => bif Nat.beq mm (cap * i.size) && Nat.beq ty e then
                    match getN cs 0 (n * i.size) with
                    | some old => some (.slice (some ⟨nx, 0, none⟩) (n + m) (n + m), (hp.set none a).set (some (.row (setN .leaf 0 (old ++ news)) ((n + m) * i.size) e)) nx, nx + 1)
                    | none => none
                  else none
                | _ => none
              | _ => none
            else none
          | none => none
        else none
      | none => none
    | _, _, _ => none
  | _, _, _ => none
/-- a row that was appended to, under a new name; its old name, if any, is forgotten -/
theorem Inv.grown {P : Program} {β : Where} {hp : T Blk} {nx N0 : Nat} {w w' : World} (I : Inv P β hp nx N0 w) {hp0 : T Blk} {row : Option Nat} (hg : w.grownBy w' row)
    (h0 : ∀ n r, β n = some r → hp0.get n ≠ none → hp0.get n = hp.get n ∧ some r.1 ≠ row) (hrow : ∀ k, row = some k → N0 ≤ k)
    {g k hid : Nat} {e : TypeId} {cs : List Value} (hgr : row = some g ∨ g = w.heap.size) (hlt : g < w'.heap.size) (hN : N0 ≤ g)
    (hb : ∀ γ, Ext β γ → BR P γ (.row (setN .leaf 0 cs) k e) (g, hid) w') :
    Stp P N0 β hp nx w (β.upd nx (g, hid)) (hp0.set (some (.row (setN .leaf 0 cs) k e)) nx) (nx + 1) w' ∨ ¬ (∀ n, n < nx → β n = none → hp0.get n = hp.get n) := by
  by_cases hgh : ∀ n, n < nx → β n = none → hp0.get n = hp.get n
  case neg => exact .inr hgh
  left
  have hnone : β nx = none := by
    cases h : β nx with
    | none => rfl
    | some r => exact absurd (I.bnd nx r h).1 (by omega)
  have hx : Ext β (β.upd nx (g, hid)) := fun n r h => by
    unfold Where.upd
    rw [if_neg (fun e => by rw [e, hnone] at h; cases h)]
    exact h
  have hup : ∀ n r, β.upd nx (g, hid) n = some r → (n = nx ∧ r = (g, hid)) ∨ (n ≠ nx ∧ β n = some r) := fun n r h => by
    unfold Where.upd at h
    by_cases e : n = nx
    · rw [if_pos e] at h; cases h; exact .inl ⟨e, rfl⟩
    · rw [if_neg e] at h; exact .inr ⟨e, h⟩
  have hfar : ∀ n r, β n = some r → hp0.get n ≠ none → r.1 ≠ g := fun n r h hh he => by
    obtain ⟨_, h2⟩ := h0 n r h hh
    rcases hgr with hgr | hgr
    · exact h2 (by rw [hgr, he])
    · have := (I.bnd n r h).2.2; omega
  refine ⟨hx, by omega, ?_, ⟨hg.os, hg.tape, hg.output, hg.size, fun k hk => hg.block k (Nat.lt_of_lt_of_le hk I.base) fun he => absurd (hrow k he.symm) (by omega)⟩, fun n hn hβ => ?_⟩
  · refine I.upd hx (by omega) hg.size (fun n r h => ?_) (fun n m r q h1 h2 h3 h4 h5 => ?_) fun n r b h1 h2 => ?_
    · rcases hup n r h with ⟨rfl, rfl⟩ | ⟨_, h⟩
      · exact .inr ⟨by omega, hN, hlt⟩
      · exact .inl h
    · rw [T.get_set] at h3 h4
      rcases hup n r h1 with ⟨e1, e2⟩ | ⟨n1, g1⟩ <;> rcases hup m q h2 with ⟨e3, e4⟩ | ⟨n2, g2⟩
      · rw [e1, e3]
      · rw [if_neg n2] at h4; exact absurd (by rw [← h5, e2]) (hfar m q g2 h4)
      · rw [if_neg n1] at h3; exact absurd (by rw [h5, e4]) (hfar n r g1 h3)
      · rw [if_neg n1] at h3; rw [if_neg n2] at h4
        exact I.inj n m r q g1 g2 (by rw [← (h0 n r g1 h3).1]; exact h3) (by rw [← (h0 m q g2 h4).1]; exact h4) h5
    · rw [T.get_set] at h2
      rcases hup n r h1 with ⟨rfl, rfl⟩ | ⟨n1, h1⟩
      · rw [if_pos rfl] at h2; cases h2; exact .inr (hb _ hx)
      · rw [if_neg n1] at h2
        obtain ⟨e1, e2⟩ := h0 n r h1 (by rw [h2]; simp)
        exact .inl ⟨h1, by rw [← e1]; exact h2, hg.block _ (I.bnd n r h1).2.2 e2⟩
  · have hne : n ≠ nx := by omega
    refine ⟨by unfold Where.upd; rw [if_neg hne]; exact hβ, ?_⟩
    rw [T.get_set, if_neg hne]
    exact hgh n hn hβ
theorem appQ_sound {P : Program} {β : Where} {hp : T Blk} {nx N0 : Nat} {w : World} (I : Inv P β hp nx N0 w) {ev : Val} {ρ : Operand → Value} {o : Oper} {c : Call} (ho : o.op = .call c) {v : Value} {hp' : T Blk} {nx' : Nat}
    (h : appQ P ev hp nx c = some (v, hp', nx')) (hO : OR β ev ρ o.op.operands) :
    ∃ β' v' w', (execOp ρ o).run P w = .ok (.value v') w' ∧ Stp P N0 β hp nx w β' hp' nx' w' ∧ VR β' v v' := by
  obtain ⟨callee, args, argTypes⟩ := c
  obtain ⟨args⟩ := args
  obtain ⟨argTypes⟩ := argTypes
  unfold appQ at h
  split at h
  next s x t t' hc ha hty =>
    simp only at hc ha hty
    subst hc; subst ha; subst hty
    split at h
    next base n cap b o' m c' e h1 h2 h3 =>
      split at h
      next i hi =>
        cases hb : (Nat.beq t t' && Nat.ble 1 m && Nat.ble 1 i.size && Nat.ble i.bytes 1000 && Nat.ble (n + m) 1000000 && Nat.ble n cap && (match i.zero with | some z => Nat.beq z.cells.size i.size | none => false)) with
        | false => rw [hb] at h; cases h
        | true =>
          rw [hb, cond_true] at h
          simp only [Bool.and_eq_true] at hb
          obtain ⟨⟨⟨⟨⟨⟨b1, b2⟩, b3⟩, b4⟩, b5⟩, b6⟩, b7⟩ := hb
          have b1 := Nat.eq_of_beq_eq_true b1
          subst b1
          have b2 := Nat.le_of_ble_eq_true b2
          have b3 := Nat.le_of_ble_eq_true b3
          have b4 := Nat.le_of_ble_eq_true b4
          have b5 := Nat.le_of_ble_eq_true b5
          have b6 := Nat.le_of_ble_eq_true b6
          cases hz : i.zero with
          | none => rw [hz] at b7; cases b7
          | some z =>
            rw [hz] at b7
            have b7 := Nat.eq_of_beq_eq_true b7
            cases hn : rowOf hp b o' (m * i.size) with
            | none => rw [hn] at h; cases h
            | some news =>
              rw [hn] at h
              simp only at h
              cases hon : news.all one with
              | false => rw [hon] at h; cases h
              | true =>
                rw [hon, cond_true] at h
                simp only [List.all_eq_true] at hon
                have k1 := hO s (by rw [ho]; simp [Op.operands, Call.operands]) _ h1
                obtain ⟨rx, hrx, ex⟩ := (hO x (by rw [ho]; simp [Op.operands, Call.operands]) _ h2).sl_inv
                obtain ⟨news', hnl, hnk, hnc⟩ := rowOf_sound I hn hrx
                have hones : ∀ u ∈ news', u.oneCell' = true := fun u hu => by
                  rw [one_cell']
                  obtain ⟨j, hj, rfl⟩ := List.mem_iff_getElem.1 hu
                  have hj' : j < news.length := hnl.1 ▸ hj
                  rw [(hnl.2 j _ _ (List.getElem?_eq_getElem hj') (List.getElem?_eq_getElem hj)).one]
                  exact hon _ (List.getElem_mem hj')
                have hbytes : (n + m) * i.bytes ≤ 140737488355328 := by
                  have := Nat.mul_le_mul b5 b4; omega
                have h63 : n + m ≤ maxLen := by unfold maxLen; omega
                have hesz : esz P e = i.size := by unfold esz sizeOf; rw [hi]; rfl
                have hexec : ∀ v0 v1 w1, ρ s = v0 → (Builtin.append_ #[t, t] o.type #[v0, .slice (some ⟨rx.1, o', none⟩) m (c' + rx.2)]).run P w = .ok v1 w1 → (execOp ρ o).run P w = .ok (.value v1) w1 := fun v0 v1 w1 hv0 hr => by
                  unfold execOp
                  simp only [ho, resolve, invoke, builtin, Sem.run_bind, Sem.run_pure, Result.andThen_ok, List.map_toArray, List.map_cons, List.map_nil, hv0, ex, hr]
                have hBR : ∀ (w1 : World) (g cp : Nat) (xs : List Value) (ys : List Value), w1.ownsRow N0 e i.size (.slice (some ⟨g, 0, none⟩) (n + m) cp) (n + m) ys → VL β xs ys →
                    n + m ≤ cp ∧ N0 ≤ g ∧ ∀ γ, Ext β γ → BR P γ (.row (setN .leaf 0 xs) ((n + m) * i.size) e) (g, cp - (n + m)) w1 := fun w1 g cp xs ys hown hxy => by
                  rcases hown.2 with ⟨hv, _⟩ | ⟨g', cp', cur, hv, q1, q2, q3, q4, q5, q6⟩
                  · cases hv
                  · cases hv
                    refine ⟨q3, q1, fun γ hγ => ⟨cur, q2, ?_, ?_, fun j hj => ?_⟩⟩
                    · rw [hesz, q5, ← Nat.add_mul]; congr 1; omega
                    · rw [hesz, Nat.mul_div_cancel _ (by omega)]; simp only; omega
                    · have hyl := hown.1
                      have hj' : j < ys.length := by omega
                      have hjx : j < xs.length := hxy.1 ▸ hj'
                      refine ⟨xs[j], ys[j], ?_, ?_, (hxy.2 j _ _ (List.getElem?_eq_getElem hjx) (List.getElem?_eq_getElem hj')).mono hγ⟩
                      · rw [setN_get, if_pos ⟨by omega, by omega⟩, Nat.sub_zero]; exact List.getElem?_eq_getElem hjx
                      · rw [← Array.getElem?_toList]
                        have : ys[j]? = (cur.toList.take ((n + m) * i.size))[j]? := by rw [q6]
                        rw [List.getElem?_take_of_lt hj] at this
                        rw [← this]; exact List.getElem?_eq_getElem hj'
                cases base with
                | none =>
                  simp only at h
                  cases hnn : (Nat.beq n 0 && Nat.beq cap 0) with
                  | false => rw [hnn] at h; cases h
                  | true =>
                    rw [hnn, cond_true] at h
                    simp only [Option.some.injEq, Prod.mk.injEq] at h
                    obtain ⟨rfl, rfl, rfl⟩ := h
                    simp only [Bool.and_eq_true] at hnn
                    have n0 := Nat.eq_of_beq_eq_true hnn.1
                    have c0 := Nat.eq_of_beq_eq_true hnn.2
                    subst n0; subst c0
                    obtain ⟨g, cp, w1, hr, q1, q2, q3, q4⟩ := run_append_lies (P := P) w t o.type N0 e i z i.size i.bytes h3 hi hz rfl rfl b7 (by omega) (.slice none 0 0) 0 [] (World.ownsRow_nil w N0 e i.size) ⟨rx.1, o', none⟩ m (c' + rx.2) news' (by rw [hnk]) hnc hones (by omega) h63 hbytes I.base w.heap.size rfl
                    obtain ⟨q5, q6, q7⟩ := hBR w1 g cp news ([] ++ news') q1 (by simpa using hnl)
                    have hS := (I.grown (hp0 := hp) (row := none) (by simpa [Value.ownBlock] using q2) (fun n r _ _ => ⟨rfl, by simp⟩) (fun k hk => by cases hk) (g := g) (hid := cp - (0 + m)) (by rcases q3 with q3 | q3; exact absurd q3 (by simp [Value.ownBlock]); exact .inr q3) q4 q6 q7).resolve_right (fun hh => hh fun _ _ _ => rfl)
                    refine ⟨_, _, w1, hexec _ _ _ k1.sl_none hr, hS, ?_⟩
                    have hβ : (β.upd nx (g, cp - (0 + m))) nx = some (g, cp - (0 + m)) := by unfold Where.upd; rw [if_pos rfl]
                    have := VR.sl (n := nx) (o := 0) (len := 0 + m) (c := 0 + m) hβ
                    rwa [show 0 + m + (g, cp - (0 + m)).2 = cp by simp only; omega] at this
                | some ad =>
                  obtain ⟨a, off, spot⟩ := ad
                  cases off with
                  | succ k => cases h
                  | zero =>
                    cases spot with
                    | some k => cases h
                    | none =>
                      simp only at h
                      cases hga : hp.get a with
                      | none => rw [hga] at h; cases h
                      | some bl =>
                        rw [hga] at h
                        cases bl with
                        | map es => cases h
                        | ro cs m => cases h
                        | row cs mm ty =>
                          simp only at h
                          cases hmm : (Nat.beq mm (cap * i.size) && Nat.beq ty e) with
                          | false => rw [hmm] at h; cases h
                          | true =>
                            rw [hmm, cond_true] at h
                            simp only [Bool.and_eq_true] at hmm
                            have m1 := Nat.eq_of_beq_eq_true hmm.1
                            have m2 := Nat.eq_of_beq_eq_true hmm.2
                            subst m1; subst m2
                            cases hold : getN cs 0 (n * i.size) with
                            | none => rw [hold] at h; cases h
                            | some old =>
                              rw [hold] at h
                              simp only [Option.some.injEq, Prod.mk.injEq] at h
                              obtain ⟨rfl, rfl, rfl⟩ := h
                              obtain ⟨r, hr0, es⟩ := k1.sl_inv
                              obtain ⟨cs', c1, c2, c3, c4⟩ := I.hr a r _ hr0 hga
                              obtain ⟨d1, d2, d3⟩ := I.bnd a r hr0
                              rw [hesz] at c2 c3
                              rw [Nat.mul_div_cancel _ (by omega)] at c3
                              have hsz : cs'.size = (cap + r.2) * i.size := by rw [c2, Nat.add_mul]
                              have hle : n * i.size ≤ cap * i.size := Nat.mul_le_mul_right _ b6
                              have hxl : (cs'.toList.take (n * i.size)).length = n * i.size := by simp; omega
                              have hown : w.ownsRow N0 ty i.size (.slice (some ⟨r.1, 0, none⟩) n (cap + r.2)) n (cs'.toList.take (n * i.size)) :=
                                ⟨hxl, .inr ⟨r.1, cap + r.2, cs', rfl, d2, c1, by omega, c3, hsz, rfl⟩⟩
                              have hold2 : VL β old (cs'.toList.take (n * i.size)) := ⟨by rw [hxl, getN_len hold], fun j u u' hu hu' => by
                                have hj : j < n * i.size := by
                                  rcases Nat.lt_or_ge j (n * i.size) with h' | h'
                                  · exact h'
                                  · rw [List.getElem?_eq_none (by omega)] at hu'; cases hu'
                                obtain ⟨x1, x2, y1, y2, y3⟩ := c4 j (by omega)
                                rw [getN_get hold j hj, Nat.zero_add, y1] at hu
                                rw [List.getElem?_take_of_lt hj, Array.getElem?_toList, y2] at hu'
                                cases hu; cases hu'; exact y3⟩
                              obtain ⟨g, cp, w1, hr, q1, q2, q3, q4⟩ := run_append_lies (P := P) w t o.type N0 ty i z i.size i.bytes h3 hi hz rfl rfl b7 (by omega) _ n _ hown ⟨rx.1, o', none⟩ m (c' + rx.2) news' (by rw [hnk]) hnc hones (by omega) h63 hbytes I.base w.heap.size rfl
                              obtain ⟨q5, q6, q7⟩ := hBR w1 g cp (old ++ news) _ q1 (hold2.append hnl)
                              have hS := (I.grown (hp0 := hp.set none a) (row := some r.1) (by simpa [Value.ownBlock] using q2) (fun n' r' hn' hh => by
                                  rw [T.get_set] at hh ⊢
                                  by_cases e : n' = a
                                  · rw [if_pos e] at hh; exact absurd rfl hh
                                  · rw [if_neg e] at hh ⊢
                                    exact ⟨rfl, fun he => e (I.inj n' a r' r hn' hr0 hh (by rw [hga]; simp) (by simpa using he))⟩) (fun k hk => by cases hk; exact d2) (g := g) (hid := cp - (n + m)) (by rcases q3 with q3 | q3; exact .inl (by simpa [Value.ownBlock] using q3); exact .inr q3) q4 q6 q7).resolve_right (fun hh => hh fun n' h1' h2' => by
                                  rw [T.get_set, if_neg]
                                  intro e; rw [e, hr0] at h2'; cases h2')
                              refine ⟨_, _, w1, hexec _ _ _ es hr, hS, ?_⟩
                              have hβ : (β.upd nx (g, cp - (n + m))) nx = some (g, cp - (n + m)) := by unfold Where.upd; rw [if_pos rfl]
                              have := VR.sl (n := nx) (o := 0) (len := n + m) (c := n + m) hβ
                              rwa [show n + m + (g, cp - (n + m)).2 = cp by simp only; omega] at this
      next => cases h
    next => cases h
  next => cases h
end Go.Proofs.YtmfjcklmagpkbaaGreatDoor.Ev
