/-
  Rw in one text.
-/
import Derived.Below
import Derived.Deep.MidRow
import Derived.Deep.QuietTactic
import Derived.Lib.Builder
import Derived.OneCell
import Derived.OwnWalk
import Derived.Test.YtkbcdlabfbonoaaGreatDoorChecked
import Derived.Test.YtkbcdlabfbonoaaGreatDoorEv3
import Derived.Test.YtkbcdlabfbonoaaGreatDoorS01
namespace Go.Proofs.YtkbcdlabfbonoaaGreatDoor
open Go.RowKit
section
variable {P : Program} {ops : Array Oper} {rest : List Oper} {o : Oper} {a : Act} {Q : Exit → Act → World → Prop} {w w' : World} {v : Value} {t : TypeId} {b n : Nat} {T : TypeId} {cs : Array Value} {z : Nat × Nat} {ad : Operand}
theorem run_loadRow (ha : Ev.isAgg P t = some true) (hs : Ev.sizeOf P t = some n) (hb : w.heap[b]? = some (.cells cs T z)) (hn : cs.size = n) : (loadVar t ⟨b, 0, none⟩).run P w = .ok (.agg cs) w := by
  have hrun := run_loadCells_list (P := P) w ⟨b, 0, none⟩ cs.toList fun j u hu => by
    rw [Ev.add_off, Ev.cell_row hb, Nat.zero_add]; simpa using hu
  have hl : cs.toList.length = n := by simpa using hn
  rw [hl] at hrun
  unfold loadVar
  simp only [Sem.run_bind, Ev.run_isAgg ha, Result.andThen_ok, if_true, Ev.run_sizeOf hs, hrun, Sem.run_pure]
theorem exec_loadRow {ρ : Operand → Value} (ho : o.op = .load t ad) (ea : ρ ad = .pointer (some ⟨b, 0, none⟩)) (ha : Ev.isAgg P t = some true) (hs : Ev.sizeOf P t = some n) (hb : w.heap[b]? = some (.cells cs T z)) (hn : cs.size = n) : (execOp ρ o).run P w = .ok (.value (.agg cs)) w := by
  unfold execOp
  simp only [ho, ea, Instr.loadAt, Instr.sureAddr, Sem.run_bind, Sem.run_pure, Result.andThen_ok, run_loadRow ha hs hb hn]
theorem wpList_loadG (ho : o.op = .load t ad) (hw : Region.wanted o (yielded ops a.tmps) = true) (ea : a.eval ad = .pointer (some ⟨b, 0, none⟩)) (ha : Ev.isAgg P t = some true) (hs : Ev.sizeOf P t = some n) (hb : w.heap[b]? = some (.cells cs T z)) (hn : cs.size = n)
    (h : wpList P ops Q rest (a.put o.dst (.agg cs)) w) : wpList P ops Q (o :: rest) a w := by
  show (if _ then _ else _)
  rw [if_pos hw]
  refine .inl ?_
  unfold Oper.wp
  rw [exec_loadRow ho ea ha hs hb hn]
  exact h
/-- a row out of cells that are known -/
theorem wpList_loadR {off : Nat} {l : List Value} (ho : o.op = .load t ad) (hw : Region.wanted o (yielded ops a.tmps) = true) (ea : a.eval ad = .pointer (some ⟨b, off, none⟩)) (ha : Ev.isAgg P t = some true) (hs : Ev.sizeOf P t = some n) (hr : w.rangeAt b off l) (hn : l.length = n)
    (h : wpList P ops Q rest (a.put o.dst (.agg l.toArray)) w) : wpList P ops Q (o :: rest) a w := by
  have hrun := run_loadCells_list (P := P) w ⟨b, off, none⟩ l fun j u hu => by
    rw [Ev.add_off]; exact hr j u hu
  rw [hn] at hrun
  have he : (execOp a.eval o).run P w = .ok (.value (.agg l.toArray)) w := by
    unfold execOp
    simp only [ho, ea, Instr.loadAt, Instr.sureAddr, Sem.run_bind, Sem.run_pure, Result.andThen_ok, loadVar, Ev.run_isAgg ha, if_true, Ev.run_sizeOf hs, hrun]
  show (if _ then _ else _)
  rw [if_pos hw]
  refine .inl ?_
  unfold Oper.wp
  rw [he]
  exact h
theorem range_row {w : World} {b : Nat} {cs : Array Value} {T : TypeId} {z : Nat × Nat} (hb : w.heap[b]? = some (.cells cs T z)) {off : Nat} {l : List Value} (hl : (cs.toList.drop off).take l.length = l) : w.rangeAt b off l := fun j v hv => by
  rw [Ev.cell_row hb]
  have hj : j < l.length := (List.getElem?_eq_some_iff.1 hv).1
  rw [← hl, List.getElem?_take_of_lt hj, List.getElem?_drop] at hv
  simpa using hv
/-- cells stored at a place within a row -/
theorem wpList_storeM {off : Nat} {l cs' : Array Value} {x : Operand} (ho : o.op = .store t ad x) (hd : o.dst = none) (hw : Region.wanted o (yielded ops a.tmps) = true) (ea : a.eval ad = .pointer (some ⟨b, off, none⟩)) (ex : (a.eval x).cells = l)
    (ht : Ev.sizeOf P t = some n) (hb : w.heap[b]? = some (.cells cs T (0, 0))) (hl : l.size = n) (hc : off + n ≤ cs.size) (h1 : ∀ u ∈ l.toList, u.oneCell' = true) (hcs : (cs.toList.take off ++ l.toList ++ cs.toList.drop (off + n)).toArray = cs')
    (h : ∀ w', w'.heap[b]? = some (.cells cs' T (0, 0)) → Fr [b] w w' → wpList P ops Q rest a w') : wpList P ops Q (o :: rest) a w := by
  have hrun := run_storeCells_at (P := P) b off T l.toList 0 cs w hb (by simp; omega) h1
  simp only [Nat.add_zero] at hrun
  have hsz : (a.eval x).cells.size = n := by rw [ex]; exact hl
  have hcl : (a.eval x).cells.toList = l.toList := by rw [ex]
  have hll : l.toList.length = n := by simpa using hl
  have hr : (execOp a.eval o).run P w = .ok .skip (w.setRow b (cs.toList.take off ++ l.toList ++ cs.toList.drop (off + l.toList.length)).toArray) := by
    unfold execOp
    simp only [ho, ea, Instr.storeAt, Instr.sureAddr, Sem.run_bind, Sem.run_pure, Result.andThen_ok, storeVar, Ev.run_sizeOf ht, hsz, hcl, ne_eq, not_true_eq_false, if_false, hrun]
  rw [hll, hcs] at hr
  show (if _ then _ else _)
  rw [if_pos hw]
  refine .inl ?_
  unfold Oper.wp
  rw [hr]
  have hput : a.put o.dst undef = a := by rw [hd]; rfl
  have := h (w.setRow b cs') (setRow_heap w b cs _ T _ hb) ⟨rfl, rfl, rfl, by simp, fun k _ hk => setRow_other w b k _ (by simpa using hk)⟩
  rw [← hput] at this
  exact this
end
end Go.Proofs.YtkbcdlabfbonoaaGreatDoor
