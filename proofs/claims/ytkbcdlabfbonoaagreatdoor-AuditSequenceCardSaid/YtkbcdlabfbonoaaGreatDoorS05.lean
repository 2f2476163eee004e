/-
  Bs7 in one text.
-/
import Derived.Below
import Derived.Deep.QuietTactic
import Derived.Lib.Builder
import Derived.OneCell
import Derived.OwnWalk
import Derived.Test.YtkbcdlabfbonoaaGreatDoorChecked
import Derived.Test.YtkbcdlabfbonoaaGreatDoorEv3
import Derived.Test.YtkbcdlabfbonoaaGreatDoorS01
namespace Go.Proofs.YtkbcdlabfbonoaaGreatDoor
open Go.RowKit
section
variable {P : Program} {ops : Array Oper} {rest : List Oper} {o : Oper} {a : Act} {Q : Exit → Act → World → Prop} {w w' : World} {v : Value}
theorem oper_rown {K : Act → World → Prop} {t : TypeId} {ad x : Operand} (ho : o.op = .store t ad x) (hd : o.dst = none) {b n : Nat} {T : TypeId} {cs l : Array Value} (ea : a.eval ad = .pointer (some ⟨b, 0, none⟩)) (ex : (a.eval x).cells = l)
    (ht : Ev.sizeOf P t = some n) (hb : w.heap[b]? = some (.cells cs T (0, 0))) (hl : l.size = n) (hc : cs.size = n) (h1 : ∀ u ∈ l.toList, u.oneCell' = true)
    (h : ∀ w', w'.heap[b]? = some (.cells l T (0, 0)) → Fr [b] w w' → K a w') : o.wp P a w K Q := by
    have hrun := run_storeCells_at (P := P) b 0 T l.toList 0 cs w hb (by simp; omega) h1
    simp only [Nat.add_zero] at hrun
    have hsz : (a.eval x).cells.size = n := by rw [ex]; exact hl
    have hcl : (a.eval x).cells.toList = l.toList := by rw [ex]
    unfold Oper.wp
    have hr : (execOp a.eval o).run P w = .ok .skip (w.setRow b (cs.toList.take 0 ++ l.toList ++ cs.toList.drop (0 + l.toList.length)).toArray) := by
      unfold execOp
      simp only [ho, ea, Instr.storeAt, Instr.sureAddr, Sem.run_bind, Sem.run_pure, Result.andThen_ok, storeVar, Ev.run_sizeOf ht, hsz, hcl, ne_eq, not_true_eq_false, if_false, hrun]
    have e : (cs.toList.take 0 ++ l.toList ++ cs.toList.drop (0 + l.toList.length)).toArray = l := by
      rw [List.drop_eq_nil_of_le (by simp; omega)]; simp
    rw [e] at hr
    rw [hr]
    have hput : a.put o.dst undef = a := by rw [hd]; rfl
    have := h (w.setRow b l) (setRow_heap w b cs _ T _ hb) ⟨rfl, rfl, rfl, by simp, fun k _ hk => setRow_other w b k _ (by simpa using hk)⟩
    rw [← hput] at this
    exact this
theorem wpList_rown (hg : o.guard = none) {t : TypeId} {ad x : Operand} (ho : o.op = .store t ad x) (hd : o.dst = none) {b n : Nat} {T : TypeId} {cs l : Array Value} (ea : a.eval ad = .pointer (some ⟨b, 0, none⟩)) (ex : (a.eval x).cells = l)
    (ht : Ev.sizeOf P t = some n) (hb : w.heap[b]? = some (.cells cs T (0, 0))) (hl : l.size = n) (hc : cs.size = n) (h1 : ∀ u ∈ l.toList, u.oneCell' = true)
    (h : ∀ w', w'.heap[b]? = some (.cells l T (0, 0)) → Fr [b] w w' → wpList P ops Q rest a w') : wpList P ops Q (o :: rest) a w :=
  wpList_plain hg fun _ hK => oper_rown ho hd ea ex ht hb hl hc h1 fun w' k1 k2 => hK a w' (h w' k1 k2)
end
end Go.Proofs.YtkbcdlabfbonoaaGreatDoor
