/-
  The walk of the references' number.
-/
import Derived.Test.YtkcbkfflabkcgaaDoorR2
import Derived.Test.YtkcbkfflabkcgaaDoorFn
import Derived.Test.YtkcbkfflabkcgaaDoorW7
import Derived.Lib.MinMax
import Derived.Deep.QuietTactic
import Derived.BigQuiet
import Derived.OwnWalk
namespace Go.Proofs.YtkcbkfflabkcgaaDoor
open Go.RowKit Ieee

theorem num_step (l : List UInt8) (k : Nat) (h : k < l.length) : capN (capN (decVal (l.take k)) * 10 + ((l.getD k 0).toNat - 48)) = capN (decVal (l.take (k + 1))) := by
  rw [cap_step, List.take_succ_eq_append_getElem h, decVal_snoc]
  simp [List.getD, h]
theorem num_end {l : List UInt8} {k : Nat} (h : l.length ≤ k) : ∀ c r, l.drop k = c :: r → isDig c = false := by
  intro c r e; rw [List.drop_eq_nil_of_le h] at e; cases e
theorem num_stop {l : List UInt8} {k : Nat} (hk : k < l.length) (h : isDig (l.getD k 0) = false) : ∀ c r, l.drop k = c :: r → isDig c = false := by
  intro c r e
  rw [List.drop_eq_getElem_cons hk] at e
  cases e
  simpa [List.getD, hk] using h

theorem num_ret (s : ByteArray) (k n : Nat) (hk : k ≤ s.size) (hl : s.data.toList.length = s.size) (hv : n = capN (decVal (s.data.toList.take k))) (e1 : digs s.data.toList = s.data.toList.take k) (e2 : rst s.data.toList = s.data.toList.drop k) :
    Hid (Value.tuple #[.int .u64 n, .int .i64 k, .string (s.extract k s.size)] = .tuple #[.int .u64 (capN (decVal (digs s.data.toList))), .int .i64 (digs s.data.toList).length, .string ⟨(rst s.data.toList).toArray⟩]) := by
  show _ = _
  rw [e1, e2, ← hv, List.length_take, hl, Nat.min_eq_left hk]
  have : s.extract k s.size = ⟨(s.data.toList.drop k).toArray⟩ := by
    apply ByteArray.ext
    apply Array.toList_inj.1
    simp only [ByteArray.data_extract, Array.toList_extract, List.extract_eq_take_drop]
    exact List.take_of_length_le (by rw [List.length_drop, hl]; exact Nat.le_refl _)
  rw [this]

end Go.Proofs.YtkcbkfflabkcgaaDoor
