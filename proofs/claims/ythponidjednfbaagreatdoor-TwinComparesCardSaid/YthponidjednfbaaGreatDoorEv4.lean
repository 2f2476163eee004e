/-
  The evaluator: operations that act on memory.
-/
import Derived.Test.YthponidjednfbaaGreatDoorEv3
import Derived.Deep.AppendLies
import Derived.Deep.AppendSrc
namespace Go.Proofs.YthponidjednfbaaGreatDoor.Ev
open RowKit

def Where.upd (β : Where) (m : Nat) (r : Nat × Nat) : Where := fun n => if n = m then some r else β n
theorem Frm.new {β : Where} {hp hp' : T Blk} {w w' : World} {m : Nat} {r : Nat × Nat} (hm : ∀ n q, β n = some q → n ≠ m → hp'.get n ≠ none → hp.get n ≠ none) (hr : w.heap.size ≤ r.1 ∨ Foot β hp r.1)
    (hw : ∀ g, g < w.heap.size → ¬ Foot β hp g → w'.heap[g]? = w.heap[g]?) : Frm β hp w (β.upd m r) hp' w' := ⟨hw, fun g hg ⟨n, q, h1, h2, h3⟩ => by
  unfold Where.upd at h1
  by_cases e : n = m
  · rw [if_pos e] at h1; cases h1
    rcases hr with hr | hr
    · omega
    · rw [← h3]; exact hr
  · rw [if_neg e] at h1
    exact ⟨n, q, h1, hm n q h1 e h2, h3⟩⟩
/-- one thing was done -/
structure Stp (P : Program) (N0 : Nat) (β : Where) (hp : T Blk) (nx : Nat) (w : World) (β' : Where) (hp' : T Blk) (nx' : Nat) (w' : World) : Prop where
  ext : Ext β β'
  le : nx ≤ nx'
  inv : Inv P β' hp' nx' N0 w'
  bel : Below N0 w w'
  gh : ∀ n, n < nx → β n = none → β' n = none ∧ hp'.get n = hp.get n
  fm : Frm β hp w β' hp' w'
theorem Stp.refl {P : Program} {N0 : Nat} {β : Where} {hp : T Blk} {nx : Nat} {w : World} (I : Inv P β hp nx N0 w) : Stp P N0 β hp nx w β hp nx w :=
  ⟨Ext.refl _, Nat.le_refl _, I, Below.refl _ _, fun _ _ h => ⟨h, rfl⟩, Frm.refl _ _ _⟩
theorem Stp.trans {P : Program} {N0 : Nat} {β β1 β2 : Where} {hp hp1 hp2 : T Blk} {nx nx1 nx2 : Nat} {w w1 w2 : World} (a : Stp P N0 β hp nx w β1 hp1 nx1 w1) (b : Stp P N0 β1 hp1 nx1 w1 β2 hp2 nx2 w2) : Stp P N0 β hp nx w β2 hp2 nx2 w2 :=
  ⟨a.ext.trans b.ext, Nat.le_trans a.le b.le, b.inv, a.bel.trans b.bel, fun n h h' => by
    obtain ⟨c, d⟩ := a.gh n h h'
    obtain ⟨e, f⟩ := b.gh n (Nat.lt_of_lt_of_le h a.le) c
    exact ⟨e, f.trans d⟩, a.fm.trans b.fm a.bel.size⟩
/-- a name is kept for a block that is not there yet -/
theorem Inv.keep {P : Program} {β : Where} {hp : T Blk} {nx N0 : Nat} {w : World} (I : Inv P β hp nx N0 w) (b : Blk) : Inv P β (hp.set (some b) nx) (nx + 1) N0 w := by
  have hne : ∀ n r, β n = some r → n ≠ nx := fun n r h e => absurd (I.bnd n r h).1 (by omega)
  refine I.upd (I.cln_new _) (Ext.refl _) (by omega) (Nat.le_refl _) (fun n r h => .inl h) (fun n m r q h1 h2 h3 h4 h5 => ?_) fun n r b' h1 h2 => ?_
  · rw [T.get_set, if_neg (hne n r h1)] at h3
    rw [T.get_set, if_neg (hne m q h2)] at h4
    exact I.inj n m r q h1 h2 h3 h4 h5
  · rw [T.get_set, if_neg (hne n r h1)] at h2
    exact .inl ⟨h1, h2, rfl⟩
/-- a block that a name was kept for is made -/
theorem Inv.made {P : Program} {β : Where} {hp : T Blk} {nx N0 : Nat} {w : World} (I : Inv P β hp nx N0 w) {m : Nat} (hm : m < nx) (hβ : β m = none) {cs cs' : List Value} {t : T Value} {ty : TypeId}
    (hh : hp.get m = some (.row t cs.length ty)) (ht : ∀ i, i < cs.length → t.get i = cs[i]?) (hlen : cs.length ≤ maxLen) (hl : VL β cs cs') :
    Inv P (β.upd m (w.heap.size, 0)) hp nx N0 (w.alloc (.cells ⟨cs'⟩ ty)) ∧ Ext β (β.upd m (w.heap.size, 0)) := by
  have hx : Ext β (β.upd m (w.heap.size, 0)) := fun n r h => by
    unfold Where.upd
    rw [if_neg (fun e => by rw [e, hβ] at h; cases h)]
    exact h
  have hup : ∀ n r, β.upd m (w.heap.size, 0) n = some r → (n = m ∧ r = (w.heap.size, 0)) ∨ (n ≠ m ∧ β n = some r) := fun n r h => by
    unfold Where.upd at h
    by_cases e : n = m
    · rw [if_pos e] at h; cases h; exact .inl ⟨e, rfl⟩
    · rw [if_neg e] at h; exact .inr ⟨e, h⟩
  refine ⟨I.upd I.cln hx (Nat.le_refl _) (by simp) (fun n r h => ?_) (fun n k r q h1 h2 h3 h4 h5 => ?_) (fun n r b h1 h2 => ?_), hx⟩
  · rcases hup n r h with ⟨rfl, rfl⟩ | ⟨_, h⟩
    · exact .inr ⟨hm, I.base, by simp⟩
    · exact .inl h
  · rcases hup n r h1 with ⟨e1, e2⟩ | ⟨n1, g1⟩ <;> rcases hup k q h2 with ⟨e3, e4⟩ | ⟨n2, g2⟩
    · rw [e1, e3]
    · have := (I.bnd k q g2).2.2; rw [e2] at h5; simp at h5; omega
    · have := (I.bnd n r g1).2.2; rw [e4] at h5; simp at h5; omega
    · exact I.inj n k r q g1 g2 h3 h4 h5
  · rcases hup n r h1 with ⟨rfl, rfl⟩ | ⟨n1, h1⟩
    · rw [hh] at h2
      cases h2
      refine .inr ⟨⟨cs'⟩, by show (w.heap.push _)[w.heap.size]? = _; simp, by simp [hl.1], ?_, fun i hi => ?_⟩
      · have := Nat.div_le_self cs.length (esz P ty); simp; omega
      · have hi' : i < cs'.length := hl.1 ▸ hi
        refine ⟨cs[i], cs'[i], by rw [ht i hi, List.getElem?_eq_getElem hi], by simp [hi'], (hl.2 i _ _ (List.getElem?_eq_getElem hi) (List.getElem?_eq_getElem hi')).mono hx⟩
    · exact .inl ⟨h1, h2, Below.heap_alloc w _ _ (I.bnd n r h1).2.2⟩
theorem mkV_VR {β : Where} {m b : Nat} (h : β m = some (b, 0)) (sh : Option (Nat × Nat)) : VR β (mkV sh m) (mkV sh b) := by
  cases sh with
  | none => exact .ptr h
  | some p => exact .sl (r := (b, 0)) h
/-- the cells of a row -/
def rowOf (hp : T Blk) (n o k : Nat) : Option (List Value) :=
  match rdOf hp n with
  | some (cs, m) => bif Nat.ble (o + k) m then getN cs o k else none
  | none => none
theorem rowOf_sound {P : Program} {β : Where} {hp : T Blk} {nx N0 : Nat} {w : World} (I : Inv P β hp nx N0 w) {n o k : Nat} {l : List Value} (h : rowOf hp n o k = some l) {r : Nat × Nat} (hr : β n = some r) :
    ∃ l' : List Value, VL β l l' ∧ l'.length = k ∧ ∀ j u, l'[j]? = some u → w.cell? ((⟨r.1, o, none⟩ : Addr).add j) = some u := by
  unfold rowOf rdOf at h
  cases hb : hp.get n with
  | none => rw [hb] at h; cases h
  | some b =>
    rw [hb] at h
    simp only at h
    cases hrd : b.rd with
    | none => rw [hrd] at h; cases h
    | some x =>
      obtain ⟨cs, m⟩ := x
      rw [hrd] at h
      obtain ⟨cs', ty, z, h1, h2, h4⟩ := (I.hr n r _ hr hb).read hrd
      simp only at h
      cases hle : Nat.ble (o + k) m with
      | false => rw [hle] at h; cases h
      | true =>
        rw [hle, cond_true] at h
        have hle := Nat.le_of_ble_eq_true hle
        have hll := getN_len h
        have hsz : ((cs'.toList.drop o).take k).length = k := by simp; omega
        have hget : ∀ j, j < k → ((cs'.toList.drop o).take k)[j]? = cs'[o + j]? := fun j hj => by
          rw [List.getElem?_take_of_lt hj, List.getElem?_drop]; simp
        have lt_of : ∀ j u, ((cs'.toList.drop o).take k)[j]? = some u → j < k := fun j u hu => by
          rcases Nat.lt_or_ge j k with h' | h'
          · exact h'
          · rw [List.getElem?_eq_none (by omega)] at hu; cases hu
        refine ⟨(cs'.toList.drop o).take k, ⟨hll.trans hsz.symm, fun i u u' hu hu' => ?_⟩, hsz, fun j u hu => ?_⟩
        · obtain ⟨x, x', a, b, c⟩ := h4 (o + i) (by have := lt_of i u' hu'; omega)
          rw [getN_get h i (lt_of i u' hu'), a] at hu
          rw [hget i (lt_of i u' hu'), b] at hu'
          cases hu; cases hu'; exact c
        · rw [add_off, cell_row h1, ← hget j (lt_of j u hu)]; exact hu
theorem run_append_src {P : Program} (w : World) (base : Nat) (t tx ty e : TypeId) (i : TypeInfo) (z : Value) (ht : P.underlying t = some (.slice e)) (hi : P.info? e = some i) (hz : i.zero = some z)
    (hzs : z.cells.size = i.size) (v : Value) (n : Nat) (xs : List Value) (hown : w.ownsRow base e i.size v n xs)
    (x : Value) (m : Nat) (news : List Value) (hs : Src P i.size tx x m news w)
    (hm : 0 < m) (h63 : n + m ≤ maxLen) (hbytes : (n + m) * i.bytes ≤ 140737488355328) (hbase : base ≤ w.heap.size) :
    ∃ g cap w', (Builtin.append_ #[t, tx] ty #[v, x]).run P w = .ok (.slice (some ⟨g, 0, none⟩) (n + m) cap) w' ∧ w'.ownsRow base e i.size (.slice (some ⟨g, 0, none⟩) (n + m) cap) (n + m) (xs ++ news) ∧ w.grownBy w' v.ownBlock ∧
      (v.ownBlock = some g ∨ g = w.heap.size) ∧ g < w'.heap.size := by
  have hsmall : n + m ≤ 9223372036854775807 := by simp only [maxLen] at h63; omega
  have hl := hs.newsLen
  have hlen : (xs ++ news).length = (n + m) * i.size := by rw [List.length_append, hown.1, hl, Nat.add_mul]
  have grown : ∀ (old : Nat), old < n + m → ∀ (row : Option Nat),
      (w.drew.alloc (.cells ((xs ++ news).toArray ++ Builtin.zeroCells z.cells (grownCap w (n + m) old e - (n + m))) e)).ownsRow base e i.size
        (.slice (some ⟨w.heap.size, 0, none⟩) (n + m) (grownCap w (n + m) old e)) (n + m) (xs ++ news) ∧
      w.grownBy (w.drew.alloc (.cells ((xs ++ news).toArray ++ Builtin.zeroCells z.cells (grownCap w (n + m) old e - (n + m))) e)) row := by
    intro old ho row
    have hge := grownCap_ge w (n + m) old e
    have hcm : grownCap w (n + m) old e ≤ maxLen := grownCap_le_maxLen w (n + m) old e h63
    refine ⟨⟨hlen, .inr ⟨w.heap.size, _, _, rfl, hbase, heap_alloc_new w.drew _, hge, hcm, ?_, ?_⟩⟩, ⟨rfl, rfl, rfl, by simp, fun k hk _ => heap_alloc_old w.drew _ k hk⟩⟩
    · simp only [Array.size_append, List.size_toArray, size_zeroCells, hzs, hlen, ← Nat.add_mul]
      congr 1
      omega
    · simp only [Array.toList_append]
      rw [← hlen]
      exact List.take_left
  rcases hown.2 with ⟨rfl, rfl⟩ | ⟨g, cap, cur, rfl, hbg, hg, hnc, hcm, hcs, htake⟩
  · have hx : xs = [] := List.eq_nil_of_length_eq_zero (by simpa using hown.1)
    subst hx
    have hr := run_append_grow_src (P := P) w t tx ty e i z ht hi hz none 0 0 [] (by simp [Builtin.firstCells]) x m news hs (by omega) (by omega) (growslice_fits (by omega) hbytes)
    have hgr := grown 0 (by omega) (Value.ownBlock (.slice none 0 0))
    exact ⟨_, _, _, hr, hgr.1, hgr.2, .inr rfl, by simp⟩
  · by_cases hroom : n + m ≤ cap
    · have hfit : n * i.size + news.length ≤ cur.size := by rw [hl, hcs, ← Nat.add_mul]; exact Nat.mul_le_mul_right _ hroom
      have hst := run_storeCells_at (P := P) g (n * i.size) e news 0 cur w hg hfit hs.one
      simp only [Nat.add_zero, List.append_assoc] at hst
      have hr : (Builtin.append_ #[t, tx] ty #[.slice (some ⟨g, 0, none⟩) n cap, x]).run P w = .ok (.slice (some ⟨g, 0, none⟩) (n + m) cap) (w.setRow g (cur.toList.take (n * i.size) ++ news ++ cur.toList.drop (n * i.size + news.length)).toArray) := by
        rcases hs.kind with ⟨e', hk⟩ | hk <;> (simp [Builtin.append_, run_underlying ht, run_underlying hk, Go.sizeOf, typeInfo, hi, hs.len, hroom, hs.cells, Addr.add_lit, hst])
      refine ⟨_, _, _, hr, ⟨hlen, .inr ⟨g, cap, _, rfl, hbg, setRow_heap w g cur _ e _ hg, hroom, hcm, ?_, ?_⟩⟩, ⟨rfl, rfl, rfl, by simp, fun k _ hk => setRow_other w g k _ (fun e => hk (by simp [Value.ownBlock, e]))⟩, .inl rfl, by simp; exact (Array.getElem?_eq_some_iff.1 hg).1⟩
      · simp only [List.size_toArray, List.length_append, List.length_take, List.length_drop, Array.length_toList]
        omega
      · rw [htake, ← hlen]
        exact List.take_left
    · have holds : ∀ j u, xs[j]? = some u → w.cell? ((⟨g, 0, none⟩ : Addr).add j) = some u := hown.cells (g := g) rfl
      have hr := run_append_grow_src (P := P) w t tx ty e i z ht hi hz (some ⟨g, 0, none⟩) n cap xs (run_firstCells_some w.drew i.size n ⟨g, 0, none⟩ n cap xs hown.1 (by simpa using holds)) x m news hs (by omega) (by omega) (growslice_fits (by omega) hbytes)
      have hgr := grown cap (by omega) (Value.ownBlock (.slice (some ⟨g, 0, none⟩) n cap))
      exact ⟨_, _, _, hr, hgr.1, hgr.2, .inr rfl, by simp⟩
/-- append, its source read -/
def appB (hp : T Blk) (nx : Nat) (e : TypeId) (size : Nat) (base : Option Addr) (n cap m : Nat) (news : List Value) : Option (Value × T Blk × Nat) :=
  match base with
  | none => bif Nat.beq n 0 && Nat.beq cap 0 then
      some (.slice (some ⟨nx, 0, none⟩) (n + m) (n + m), hp.set (some (.row (setN .leaf 0 news) ((n + m) * size) e)) nx, nx + 1)
    else none
  | some ⟨a, 0, none⟩ =>
    match hp.get a with
    | some (.row cs mm ty) => bif Nat.beq mm (cap * size) && Nat.beq ty e then
        match getN cs 0 (n * size) with
        | some old => some (.slice (some ⟨nx, 0, none⟩) (n + m) (n + m), (hp.set none a).set (some (.row (setN .leaf 0 (old ++ news)) ((n + m) * size) e)) nx, nx + 1)
        | none => none
      else none
    | _ => none
  | _ => none
/-- append -/
def appQ0 (P : Program) (ev : Val) (hp : T Blk) (nx : Nat) (c : Call) : Option (Value × T Blk × Nat) :=
  match c.callee, c.args.toList, c.argTypes.toList with
  | .builtin .append, [s, x], [t, t'] =>
    match ev s, ev x, P.underlying t with
    | some (.slice base n cap), some (.slice (some ⟨b, o, none⟩) m _), some (.slice e) =>
      match P.info? e with
      | some i =>
        bif Nat.beq t t' && Nat.ble 1 m && Nat.ble 1 i.size && Nat.ble i.bytes 1000 && Nat.ble (n + m) 1000000 && Nat.ble n cap && (match i.zero with | some z => Nat.beq z.cells.size i.size | none => false) then
          match rowOf hp b o (m * i.size) with
          | some news => bif news.all one then appB hp nx e i.size base n cap m news else none
          | none => none
        else none
      | none => none
    | some (.slice base n cap), some (.string bs), some (.slice e) =>
      match P.info? e, P.underlying t' with
      | some i, some .string =>
        bif Nat.ble 1 bs.size && Nat.beq i.size 1 && Nat.ble i.bytes 1000 && Nat.ble (n + bs.size) 1000000 && Nat.ble n cap && (match i.zero with | some z => Nat.beq z.cells.size i.size | none => false) then
          appB hp nx e 1 base n cap bs.size (byteCells bs)
        else none
      | _, _ => none
    | _, _, _ => none
  | _, _, _ => none
/-- a row that was appended to, under a new name; its old name, if any, is forgotten -/
theorem Inv.grown {P : Program} {β : Where} {hp : T Blk} {nx N0 : Nat} {w w' : World} (I : Inv P β hp nx N0 w) {hp0 : T Blk} {row : Option Nat} (hg : w.grownBy w' row)
    (h0 : ∀ n r, β n = some r → hp0.get n ≠ none → hp0.get n = hp.get n ∧ some r.1 ≠ row) (hrow : ∀ k, row = some k → N0 ≤ k) (hcl : ∀ n, nx ≤ n → hp0.get n = none) (hft : ∀ k, row = some k → Foot β hp k)
    {g k hid : Nat} {e : TypeId} {cs : List Value} (hgr : row = some g ∨ g = w.heap.size) (hlt : g < w'.heap.size) (hN : N0 ≤ g)
    (hb : ∀ γ, Ext β γ → BR P γ (.row (setN .leaf 0 cs) k e) (g, hid) w') :
    Stp P N0 β hp nx w (β.upd nx (g, hid)) (hp0.set (some (.row (setN .leaf 0 cs) k e)) nx) (nx + 1) w' ∨ ¬ (∀ n, n < nx → β n = none → hp0.get n = hp.get n) := by
  by_cases hgh : ∀ n, n < nx → β n = none → hp0.get n = hp.get n
  case neg => exact .inr hgh
  left
  have hnone : β nx = none := by
    cases h : β nx with
    | none => rfl
    | some r => exact absurd (I.bnd nx r h).1 (by omega)
  have hx : Ext β (β.upd nx (g, hid)) := fun n r h => by
    unfold Where.upd
    rw [if_neg (fun e => by rw [e, hnone] at h; cases h)]
    exact h
  have hup : ∀ n r, β.upd nx (g, hid) n = some r → (n = nx ∧ r = (g, hid)) ∨ (n ≠ nx ∧ β n = some r) := fun n r h => by
    unfold Where.upd at h
    by_cases e : n = nx
    · rw [if_pos e] at h; cases h; exact .inl ⟨e, rfl⟩
    · rw [if_neg e] at h; exact .inr ⟨e, h⟩
  have hfar : ∀ n r, β n = some r → hp0.get n ≠ none → r.1 ≠ g := fun n r h hh he => by
    obtain ⟨_, h2⟩ := h0 n r h hh
    rcases hgr with hgr | hgr
    · exact h2 (by rw [hgr, he])
    · have := (I.bnd n r h).2.2; omega
  refine ⟨hx, by omega, ?_, ⟨hg.os, hg.tape, hg.output, hg.size, fun k hk => hg.block k (Nat.lt_of_lt_of_le hk I.base) fun he => absurd (hrow k he.symm) (by omega)⟩, fun n hn hβ => ?_, Frm.new (fun n q h hne hh => by
      rw [T.get_set, if_neg hne] at hh
      rw [← (h0 n q h hh).1]; exact hh) (by
      rcases hgr with hgr | hgr
      · exact .inr (hft g hgr)
      · exact .inl (by simp only; omega)) (fun k hk hn => hg.block k hk fun he => hn (hft k he.symm))⟩
  · refine I.upd (fun n hn => by rw [T.get_set, if_neg (by omega)]; exact hcl n (by omega)) hx (by omega) hg.size (fun n r h => ?_) (fun n m r q h1 h2 h3 h4 h5 => ?_) fun n r b h1 h2 => ?_
    · rcases hup n r h with ⟨rfl, rfl⟩ | ⟨_, h⟩
      · exact .inr ⟨by omega, hN, hlt⟩
      · exact .inl h
    · rw [T.get_set] at h3 h4
      rcases hup n r h1 with ⟨e1, e2⟩ | ⟨n1, g1⟩ <;> rcases hup m q h2 with ⟨e3, e4⟩ | ⟨n2, g2⟩
      · rw [e1, e3]
      · rw [if_neg n2] at h4; exact absurd (by rw [← h5, e2]) (hfar m q g2 h4)
      · rw [if_neg n1] at h3; exact absurd (by rw [h5, e4]) (hfar n r g1 h3)
      · rw [if_neg n1] at h3; rw [if_neg n2] at h4
        exact I.inj n m r q g1 g2 (by rw [← (h0 n r g1 h3).1]; exact h3) (by rw [← (h0 m q g2 h4).1]; exact h4) h5
    · rw [T.get_set] at h2
      rcases hup n r h1 with ⟨rfl, rfl⟩ | ⟨n1, h1⟩
      · rw [if_pos rfl] at h2; cases h2; exact .inr (hb _ hx)
      · rw [if_neg n1] at h2
        obtain ⟨e1, e2⟩ := h0 n r h1 (by rw [h2]; simp)
        exact .inl ⟨h1, by rw [← e1]; exact h2, hg.block _ (I.bnd n r h1).2.2 e2⟩
  · have hne : n ≠ nx := by omega
    refine ⟨by unfold Where.upd; rw [if_neg hne]; exact hβ, ?_⟩
    rw [T.get_set, if_neg hne]
    exact hgh n hn hβ
theorem appB_sound {P : Program} {β : Where} {hp : T Blk} {nx N0 : Nat} {w : World} (I : Inv P β hp nx N0 w) {t tx ty0 e : TypeId} {i : TypeInfo} {z : Value} {base : Option Addr} {n cap m : Nat} {news news' : List Value} {sv xv v : Value} {hp' : T Blk} {nx' : Nat}
    (h3 : P.underlying t = some (.slice e)) (hi : P.info? e = some i) (hz : i.zero = some z) (b7 : z.cells.size = i.size) (b2 : 1 ≤ m) (b3 : 1 ≤ i.size) (b4 : i.bytes ≤ 1000) (b5 : n + m ≤ 1000000) (b6 : n ≤ cap)
    (k1 : VR β (.slice base n cap) sv) (hsrc : Src P i.size tx xv m news' w) (hnl : VL β news news')
    (h : appB hp nx e i.size base n cap m news = some (v, hp', nx')) :
    ∃ β' v' w', (Builtin.append_ #[t, tx] ty0 #[sv, xv]).run P w = .ok v' w' ∧ Stp P N0 β hp nx w β' hp' nx' w' ∧ VR β' v v' := by
  have hbytes : (n + m) * i.bytes ≤ 140737488355328 := by
    have := Nat.mul_le_mul b5 b4; omega
  have h63 : n + m ≤ maxLen := by unfold maxLen; omega
  have hesz : esz P e = i.size := by unfold esz sizeOf; rw [hi]; rfl
  have hnk : news'.length = m * i.size := hsrc.newsLen
  unfold appB at h
  have hBR : ∀ (w1 : World) (g cp : Nat) (xs : List Value) (ys : List Value), w1.ownsRow N0 e i.size (.slice (some ⟨g, 0, none⟩) (n + m) cp) (n + m) ys → VL β xs ys →
      n + m ≤ cp ∧ N0 ≤ g ∧ ∀ γ, Ext β γ → BR P γ (.row (setN .leaf 0 xs) ((n + m) * i.size) e) (g, cp - (n + m)) w1 := fun w1 g cp xs ys hown hxy => by
    rcases hown.2 with ⟨hv, _⟩ | ⟨g', cp', cur, hv, q1, q2, q3, q4, q5, q6⟩
    · cases hv
    · cases hv
      refine ⟨q3, q1, fun γ hγ => ⟨cur, q2, ?_, ?_, fun j hj => ?_⟩⟩
      · rw [hesz, q5, ← Nat.add_mul]; congr 1; omega
      · rw [hesz, Nat.mul_div_cancel _ (by omega)]; simp only; omega
      · have hyl := hown.1
        have hj' : j < ys.length := by omega
        have hjx : j < xs.length := hxy.1 ▸ hj'
        refine ⟨xs[j], ys[j], ?_, ?_, (hxy.2 j _ _ (List.getElem?_eq_getElem hjx) (List.getElem?_eq_getElem hj')).mono hγ⟩
        · rw [setN_get, if_pos ⟨by omega, by omega⟩, Nat.sub_zero]; exact List.getElem?_eq_getElem hjx
        · rw [← Array.getElem?_toList]
          have : ys[j]? = (cur.toList.take ((n + m) * i.size))[j]? := by rw [q6]
          rw [List.getElem?_take_of_lt hj] at this
          rw [← this]; exact List.getElem?_eq_getElem hj'
  cases base with
  | none =>
    simp only at h
    cases hnn : (Nat.beq n 0 && Nat.beq cap 0) with
    | false => rw [hnn] at h; cases h
    | true =>
      rw [hnn, cond_true] at h
      simp only [Option.some.injEq, Prod.mk.injEq] at h
      obtain ⟨rfl, rfl, rfl⟩ := h
      simp only [Bool.and_eq_true] at hnn
      have n0 := Nat.eq_of_beq_eq_true hnn.1
      have c0 := Nat.eq_of_beq_eq_true hnn.2
      subst n0; subst c0
      obtain ⟨g, cp, w1, hr, q1, q2, q3, q4⟩ := run_append_src (P := P) w N0 t tx ty0 e i z h3 hi hz b7 (.slice none 0 0) 0 [] (World.ownsRow_nil w N0 e i.size) xv m news' hsrc (by omega) h63 hbytes I.base
      obtain ⟨q5, q6, q7⟩ := hBR w1 g cp news ([] ++ news') q1 (by simpa using hnl)
      have hS := (I.grown (hp0 := hp) (row := none) (by simpa [Value.ownBlock] using q2) (fun n r _ _ => ⟨rfl, by simp⟩) (fun k hk => by cases hk) I.cln (fun k hk => by cases hk) (g := g) (hid := cp - (0 + m)) (by rcases q3 with q3 | q3; exact absurd q3 (by simp [Value.ownBlock]); exact .inr q3) q4 q6 q7).resolve_right (fun hh => hh fun _ _ _ => rfl)
      refine ⟨_, _, w1, by rw [k1.sl_none]; exact hr, hS, ?_⟩
      have hβ : (β.upd nx (g, cp - (0 + m))) nx = some (g, cp - (0 + m)) := by unfold Where.upd; rw [if_pos rfl]
      have := VR.sl (n := nx) (o := 0) (len := 0 + m) (c := 0 + m) hβ
      rwa [show 0 + m + (g, cp - (0 + m)).2 = cp by simp only; omega] at this
  | some ad =>
    obtain ⟨a, off, spot⟩ := ad
    cases off with
    | succ k => cases h
    | zero =>
      cases spot with
      | some k => cases h
      | none =>
        simp only at h
        cases hga : hp.get a with
        | none => rw [hga] at h; cases h
        | some bl =>
          rw [hga] at h
          cases bl with
          | map es => cases h
          | ro cs m => cases h
          | row cs mm ty =>
            simp only at h
            cases hmm : (Nat.beq mm (cap * i.size) && Nat.beq ty e) with
            | false => rw [hmm] at h; cases h
            | true =>
              rw [hmm, cond_true] at h
              simp only [Bool.and_eq_true] at hmm
              have m1 := Nat.eq_of_beq_eq_true hmm.1
              have m2 := Nat.eq_of_beq_eq_true hmm.2
              subst m1; subst m2
              cases hold : getN cs 0 (n * i.size) with
              | none => rw [hold] at h; cases h
              | some old =>
                rw [hold] at h
                simp only [Option.some.injEq, Prod.mk.injEq] at h
                obtain ⟨rfl, rfl, rfl⟩ := h
                obtain ⟨r, hr0, es⟩ := k1.sl_inv
                obtain ⟨cs', c1, c2, c3, c4⟩ := I.hr a r _ hr0 hga
                obtain ⟨d1, d2, d3⟩ := I.bnd a r hr0
                rw [hesz] at c2 c3
                rw [Nat.mul_div_cancel _ (by omega)] at c3
                have hsz : cs'.size = (cap + r.2) * i.size := by rw [c2, Nat.add_mul]
                have hle : n * i.size ≤ cap * i.size := Nat.mul_le_mul_right _ b6
                have hxl : (cs'.toList.take (n * i.size)).length = n * i.size := by simp; omega
                have hown : w.ownsRow N0 ty i.size (.slice (some ⟨r.1, 0, none⟩) n (cap + r.2)) n (cs'.toList.take (n * i.size)) :=
                  ⟨hxl, .inr ⟨r.1, cap + r.2, cs', rfl, d2, c1, by omega, c3, hsz, rfl⟩⟩
                have hold2 : VL β old (cs'.toList.take (n * i.size)) := ⟨by rw [hxl, getN_len hold], fun j u u' hu hu' => by
                  have hj : j < n * i.size := by
                    rcases Nat.lt_or_ge j (n * i.size) with h' | h'
                    · exact h'
                    · rw [List.getElem?_eq_none (by omega)] at hu'; cases hu'
                  obtain ⟨x1, x2, y1, y2, y3⟩ := c4 j (by omega)
                  rw [getN_get hold j hj, Nat.zero_add, y1] at hu
                  rw [List.getElem?_take_of_lt hj, Array.getElem?_toList, y2] at hu'
                  cases hu; cases hu'; exact y3⟩
                obtain ⟨g, cp, w1, hr, q1, q2, q3, q4⟩ := run_append_src (P := P) w N0 t tx ty0 ty i z h3 hi hz b7 _ n _ hown xv m news' hsrc (by omega) h63 hbytes I.base
                obtain ⟨q5, q6, q7⟩ := hBR w1 g cp (old ++ news) _ q1 (hold2.append hnl)
                have hS := (I.grown (hp0 := hp.set none a) (row := some r.1) (by simpa [Value.ownBlock] using q2) (fun n' r' hn' hh => by
                    rw [T.get_set] at hh ⊢
                    by_cases e : n' = a
                    · rw [if_pos e] at hh; exact absurd rfl hh
                    · rw [if_neg e] at hh ⊢
                      exact ⟨rfl, fun he => e (I.inj n' a r' r hn' hr0 hh (by rw [hga]; simp) (by simpa using he))⟩) (fun k hk => by cases hk; exact d2) (I.cln_set hr0 _) (fun k hk => by cases hk; exact ⟨a, r, hr0, by rw [hga]; simp, rfl⟩) (g := g) (hid := cp - (n + m)) (by rcases q3 with q3 | q3; exact .inl (by simpa [Value.ownBlock] using q3); exact .inr q3) q4 q6 q7).resolve_right (fun hh => hh fun n' h1' h2' => by
                    rw [T.get_set, if_neg]
                    intro e; rw [e, hr0] at h2'; cases h2')
                refine ⟨_, _, w1, by rw [es]; exact hr, hS, ?_⟩
                have hβ : (β.upd nx (g, cp - (n + m))) nx = some (g, cp - (n + m)) := by unfold Where.upd; rw [if_pos rfl]
                have := VR.sl (n := nx) (o := 0) (len := n + m) (c := n + m) hβ
                rwa [show n + m + (g, cp - (n + m)).2 = cp by simp only; omega] at this
theorem appQ0_sound {P : Program} {β : Where} {hp : T Blk} {nx N0 : Nat} {w : World} (I : Inv P β hp nx N0 w) {ev : Val} {ρ : Operand → Value} {o : Oper} {c : Call} (ho : o.op = .call c) {v : Value} {hp' : T Blk} {nx' : Nat}
    (h : appQ0 P ev hp nx c = some (v, hp', nx')) (hO : OR β ev ρ o.op.operands) :
    ∃ β' v' w', (execOp ρ o).run P w = .ok (.value v') w' ∧ Stp P N0 β hp nx w β' hp' nx' w' ∧ VR β' v v' := by
  obtain ⟨callee, args, argTypes⟩ := c
  obtain ⟨args⟩ := args
  obtain ⟨argTypes⟩ := argTypes
  unfold appQ0 at h
  split at h
  next s x t t' hc ha hty =>
    simp only at hc ha hty
    subst hc; subst ha; subst hty
    split at h
    next base n cap b o' m c' e h1 h2 h3 =>
      split at h
      next i hi =>
        cases hb : (Nat.beq t t' && Nat.ble 1 m && Nat.ble 1 i.size && Nat.ble i.bytes 1000 && Nat.ble (n + m) 1000000 && Nat.ble n cap && (match i.zero with | some z => Nat.beq z.cells.size i.size | none => false)) with
        | false => rw [hb] at h; cases h
        | true =>
          rw [hb, cond_true] at h
          simp only [Bool.and_eq_true] at hb
          obtain ⟨⟨⟨⟨⟨⟨b1, b2⟩, b3⟩, b4⟩, b5⟩, b6⟩, b7⟩ := hb
          have b1 := Nat.eq_of_beq_eq_true b1
          subst b1
          have b2 := Nat.le_of_ble_eq_true b2
          have b3 := Nat.le_of_ble_eq_true b3
          have b4 := Nat.le_of_ble_eq_true b4
          have b5 := Nat.le_of_ble_eq_true b5
          have b6 := Nat.le_of_ble_eq_true b6
          cases hz : i.zero with
          | none => rw [hz] at b7; cases b7
          | some z =>
            rw [hz] at b7
            have b7 := Nat.eq_of_beq_eq_true b7
            cases hn : rowOf hp b o' (m * i.size) with
            | none => rw [hn] at h; cases h
            | some news =>
              rw [hn] at h
              simp only at h
              cases hon : news.all one with
              | false => rw [hon] at h; cases h
              | true =>
                rw [hon, cond_true] at h
                simp only [List.all_eq_true] at hon
                have k1 := hO s (by rw [ho]; simp [Op.operands, Call.operands]) _ h1
                obtain ⟨rx, hrx, ex⟩ := (hO x (by rw [ho]; simp [Op.operands, Call.operands]) _ h2).sl_inv
                obtain ⟨news', hnl, hnk, hnc⟩ := rowOf_sound I hn hrx
                have hones : ∀ u ∈ news', u.oneCell' = true := fun u hu => by
                  rw [one_cell']
                  obtain ⟨j, hj, rfl⟩ := List.mem_iff_getElem.1 hu
                  have hj' : j < news.length := hnl.1 ▸ hj
                  rw [(hnl.2 j _ _ (List.getElem?_eq_getElem hj') (List.getElem?_eq_getElem hj)).one]
                  exact hon _ (List.getElem_mem hj')
                have hs : Src P i.size t (.slice (some ⟨rx.1, o', none⟩) m (c' + rx.2)) m news' w := Src.ofSlice w h3 _ _ _ news' (by rw [hnk]) hnc hones
                obtain ⟨β', v', w', hr, hS, hv⟩ := appB_sound (ty0 := o.type) I h3 hi hz b7 b2 b3 b4 b5 b6 k1 hs hnl h
                refine ⟨β', v', w', ?_, hS, hv⟩
                unfold execOp
                simp only [ho, resolve, invoke, builtin, Sem.run_bind, Sem.run_pure, Result.andThen_ok, List.map_toArray, List.map_cons, List.map_nil, ex, hr]
      next => cases h
    next base n cap bs e h1 h2 h3 =>
      split at h
      next i hi hu =>
        cases hb : (Nat.ble 1 bs.size && Nat.beq i.size 1 && Nat.ble i.bytes 1000 && Nat.ble (n + bs.size) 1000000 && Nat.ble n cap && (match i.zero with | some z => Nat.beq z.cells.size i.size | none => false)) with
        | false => rw [hb] at h; cases h
        | true =>
          rw [hb, cond_true] at h
          simp only [Bool.and_eq_true] at hb
          obtain ⟨⟨⟨⟨⟨b2, b3⟩, b4⟩, b5⟩, b6⟩, b7⟩ := hb
          have b2 := Nat.le_of_ble_eq_true b2
          have b3 := Nat.eq_of_beq_eq_true b3
          have b4 := Nat.le_of_ble_eq_true b4
          have b5 := Nat.le_of_ble_eq_true b5
          have b6 := Nat.le_of_ble_eq_true b6
          cases hz : i.zero with
          | none => rw [hz] at b7; cases b7
          | some z =>
            rw [hz] at b7
            have b7 := Nat.eq_of_beq_eq_true b7
            have k1 := hO s (by rw [ho]; simp [Op.operands, Call.operands]) _ h1
            have ex := (hO x (by rw [ho]; simp [Op.operands, Call.operands]) _ h2).of_atom rfl
            have hs : Src P i.size t' (.string bs) bs.size (byteCells bs) w := by rw [b3]; exact Src.ofString w hu bs
            have hnl : VL β (byteCells bs) (byteCells bs) := ⟨rfl, fun j u u' hu hu' => by
              rw [hu] at hu'
              cases hu'
              obtain ⟨b, _, rfl⟩ := List.mem_map.1 (List.mem_of_getElem? hu)
              exact VR.atom rfl⟩
            rw [← b3] at h
            obtain ⟨β', v', w', hr, hS, hv⟩ := appB_sound (ty0 := o.type) I h3 hi hz b7 b2 (by omega) b4 b5 b6 k1 hs hnl (by rw [b3] at h ⊢; exact h)
            refine ⟨β', v', w', ?_, hS, hv⟩
            unfold execOp
            simp only [ho, resolve, invoke, builtin, Sem.run_bind, Sem.run_pure, Result.andThen_ok, List.map_toArray, List.map_cons, List.map_nil, ex, hr]
      next => cases h
    next => cases h
  next => cases h
/-- nothing appended -/
def appE (P : Program) (ev : Val) (c : Call) : Option Value :=
  match c.callee, c.args.toList, c.argTypes.toList with
  | .builtin .append, [s, x], [t, t'] =>
    match ev s, ev x, P.underlying t, P.underlying t' with
    | some (.slice (some ⟨a, o, none⟩) n cap), some (.slice _ 0 _), some (.slice e), some (.slice _) =>
      match P.info? e with
      | some _ => bif Nat.ble n cap then some (.slice (some ⟨a, o, none⟩) n cap) else none
      | none => none
    | _, _, _, _ => none
  | _, _, _ => none
def appQ (P : Program) (ev : Val) (hp : T Blk) (nx : Nat) (c : Call) : Option (Value × T Blk × Nat) :=
  match appE P ev c with
  | some v => some (v, hp, nx)
  | none => appQ0 P ev hp nx c
theorem appQ_sound {P : Program} {β : Where} {hp : T Blk} {nx N0 : Nat} {w : World} (I : Inv P β hp nx N0 w) {ev : Val} {ρ : Operand → Value} {o : Oper} {c : Call} (ho : o.op = .call c) {v : Value} {hp' : T Blk} {nx' : Nat}
    (h : appQ P ev hp nx c = some (v, hp', nx')) (hO : OR β ev ρ o.op.operands) :
    ∃ β' v' w', (execOp ρ o).run P w = .ok (.value v') w' ∧ Stp P N0 β hp nx w β' hp' nx' w' ∧ VR β' v v' := by
  unfold appQ at h
  split at h
  · next u hu =>
    simp only [Option.some.injEq, Prod.mk.injEq] at h
    obtain ⟨rfl, rfl, rfl⟩ := h
    obtain ⟨callee, args, argTypes⟩ := c
    obtain ⟨args⟩ := args
    obtain ⟨argTypes⟩ := argTypes
    unfold appE at hu
    split at hu
    next s x t t' hc ha hty =>
      simp only at hc ha hty
      subst hc; subst ha; subst hty
      split at hu
      next a of n cap bx cx e e' h1 h2 h3 h4 =>
        split at hu
        next i hi =>
          cases hb : Nat.ble n cap with
          | false => rw [hb] at hu; cases hu
          | true =>
            rw [hb, cond_true] at hu
            cases hu
            have hb := Nat.le_of_ble_eq_true hb
            have k1 := hO s (by rw [ho]; simp [Op.operands, Call.operands]) _ h1
            obtain ⟨r, hr, es⟩ := k1.sl_inv
            obtain ⟨b', c', ex⟩ := (hO x (by rw [ho]; simp [Op.operands, Call.operands]) _ h2).sl_any
            refine ⟨β, _, w, ?_, Stp.refl I, k1⟩
            have hle : n ≤ cap + r.2 := by omega
            have hz : i.size * 0 = 0 := Nat.mul_zero _
            unfold execOp
            simp only [ho, resolve, invoke, builtin, Sem.run_bind, Sem.run_pure, Result.andThen_ok, List.map_toArray, List.map_cons, List.map_nil, ex, es]
            cases b' <;> simp [Builtin.append_, run_underlying h3, run_underlying h4, Go.sizeOf, typeInfo, hi, Builtin.lenOf, hle, Builtin.firstCells, loadCells, loadCellsFrom, storeCells]
        next => cases hu
      next => cases hu
    next => cases hu
  · exact appQ0_sound I ho h hO
end Go.Proofs.YthponidjednfbaaGreatDoor.Ev
